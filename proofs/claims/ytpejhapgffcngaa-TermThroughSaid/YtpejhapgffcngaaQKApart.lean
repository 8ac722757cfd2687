/- Terms of the call's own, no two parts of which share a list: told to a depth. -/
import Derived.Test.YtpejhapgffcngaaQKx0
set_option linter.unusedVariables false
set_option linter.unusedSimpArgs false
namespace Go.Proofs.Ytpejhapgffcngaa.QK
open Go.RowKit Go.Proofs.YtpejhapgffcngaaW.PrintWords Go.Proofs.YtpejhapgffcngaaW.PrintLast Go.Proofs.YtpejhapgffcngaaW.PrintMore
def sliceS {α : Type} (e : Nat) (d : Kd α) : Kd (List α) where
 sz := 1
 E := e :: d.E
 K := fun w xs cs => ∃ A c, cs = [.slice A xs.length c] ∧ xs.length ≤ c ∧ d.C w A xs.length xs
 M := fun w base ok xs cs => ∃ v, cs = [v] ∧ Kd.S d e w base ok v xs
 K_len := by
  rintro w x cs ⟨A, c, rfl, _⟩
  rfl
 K_one := by
  rintro w x cs ⟨A, c, rfl, _⟩ u hu
  rw [List.mem_singleton.1 hu]
  rfl
 K_below := by
  rintro w w1 x cs hb ⟨A, c, rfl, hl, hr⟩
  exact ⟨A, c, rfl, hl, Kd.C_below hr hb⟩
 K_of_M := by
  rintro w base ok x cs ⟨v, rfl, h⟩
  obtain ⟨A, c, rfl, hl, hr⟩ := Kd.S_reads h
  exact ⟨A, c, rfl, hl, hr⟩
 M_mono := by
  rintro w base ok ok' x cs hok ⟨v, rfl, h⟩
  exact ⟨v, rfl, Kd.S_mono h hok⟩
 M_bound := by
  rintro w base ok x cs ⟨v, rfl, h⟩
  exact ⟨v, rfl, Kd.S_bound h⟩
 M_move := by
  rintro w w1 base ok x cs hm ⟨v, rfl, h⟩
  exact ⟨v, rfl, Kd.S_move h hm⟩
 M_lower := by
  rintro w base base' ok x cs hb ⟨v, rfl, h⟩
  exact ⟨v, rfl, Kd.S_lower h hb⟩
def FS (d : Kd S27) : Kd S27 := Kd.iso (Kd.pair (Kd.int .i64) (Kd.pair (Kd.int .i64) (Kd.pair Kd.string (Kd.pair (Kd.slice 76 k76) (sliceS 27 d))))) (fun x : S27 => (x.f0, x.f1, x.f2, x.f3, x.f4))
def dS (n : Nat) : Kd S27 := Kd.upto FS 5 [27, 76] n
theorem dS_sz (n : Nat) : (dS n).sz = 5 := Kd.upto_sz (F := FS) (sz := 5) (E := [27, 76]) (fun _ => rfl) n
theorem dS_E : ∀ n q, q ∈ (dS n).E → q ∈ [27, 76]
 | 0, _, h => h
 | n + 1, q, h => by
  have h2 : q ∈ [76] ++ [76] ++ (27 :: (dS n).E) ∨ q ∈ 76 :: k76.E ++ (27 :: (dS n).E) := by
   right
   simpa [dS, Kd.upto, FS, Kd.iso, Kd.pair, Kd.int, Kd.string, Kd.scalar, Kd.slice, sliceS] using h
  rcases h2 with h2 | h2
  ·simp at h2
   rcases h2 with rfl | rfl | h2
   ·decide
   ·decide
   ·exact dS_E n q h2
  ·simp [k76, Kd.fix] at h2
   rcases h2 with rfl | rfl | h2
   ·decide
   ·decide
   ·exact dS_E n q h2
theorem dS_open {n : Nat} {w : World} {base : Nat} {ok : Nat → Prop} {x : S27} {cs : List Value} (h : (dS (n + 1)).M w base ok x cs) : ∃ v3 v4, cs = [.int .i64 x.f0, .int .i64 x.f1, .string x.f2, v3, v4] ∧ Kd.R k76 76 w base ok v3 x.f3 ∧ Kd.S (dS n) 27 w base ok v4 x.f4 := by
 obtain ⟨_, _, rfl, rfl, ⟨_, _, rfl, rfl, ⟨_, _, rfl, rfl, ⟨_, _, rfl, ⟨v3, rfl, g3⟩, ⟨v4, rfl, g4⟩⟩⟩⟩⟩ := h
 exact ⟨v3, v4, rfl, g3, g4⟩
theorem dS_mk {n : Nat} {w : World} {base : Nat} {ok : Nat → Prop} (x : S27) {v3 v4 : Value} (g3 : Kd.R k76 76 w base ok v3 x.f3) (g4 : Kd.S (dS n) 27 w base ok v4 x.f4) : (dS (n + 1)).M w base ok x [.int .i64 x.f0, .int .i64 x.f1, .string x.f2, v3, v4] :=
 ⟨[.int .i64 x.f0], [.int .i64 x.f1, .string x.f2, v3, v4], rfl, rfl, ⟨[.int .i64 x.f1], [.string x.f2, v3, v4], rfl, rfl, ⟨[.string x.f2], [v3, v4], rfl, rfl, ⟨[v3], [v4], rfl, ⟨v3, rfl, g3⟩, ⟨v4, rfl, g4⟩⟩⟩⟩⟩
theorem S_imp {α : Type} {d d' : Kd α} (hs : d.sz = d'.sz) (hm : ∀ w base ok x cs, d.M w base ok x cs → d'.M w base ok x cs) {e : Nat} {w : World} {base : Nat} {ok : Nat → Prop} {v : Value} {xs : List α} (h : Kd.S d e w base ok v xs) : Kd.S d' e w base ok v xs := by
 obtain ⟨f, h⟩ := h
 exact ⟨f, Kd.R_imp (d := Kd.tag f d) (d' := Kd.tag f d') hs (fun w base ok x cs h => hm _ _ _ _ _ h) h⟩
theorem dS_up : ∀ (n : Nat) (w : World) (base : Nat) (ok : Nat → Prop) (x : S27) (cs : List Value), (dS n).M w base ok x cs → (dS (n + 1)).M w base ok x cs
 | 0, _, _, _, _, _, h => h.elim
 | n + 1, w, base, ok, x, cs, h => by
  obtain ⟨v3, v4, rfl, g3, g4⟩ := dS_open h
  exact dS_mk x g3 (S_imp (by rw [dS_sz, dS_sz]) (fun w base ok x cs h => dS_up n w base ok x cs h) g4)
theorem dS_le {n m : Nat} (h : n ≤ m) {w : World} {base : Nat} {ok : Nat → Prop} {x : S27} {cs : List Value} (hM : (dS n).M w base ok x cs) : (dS m).M w base ok x cs := by
 induction h with
 | refl => exact hM
 | step _ ih => exact dS_up _ _ _ _ _ _ ih
theorem dS_K : ∀ (n : Nat) (w : World) (x : S27) (cs : List Value), (dS n).K w x cs → k27.K w x cs
 | 0, _, _, _, h => h.elim
 | n + 1, w, x, cs, h => by
  obtain ⟨_, _, rfl, rfl, ⟨_, _, rfl, rfl, ⟨_, _, rfl, rfl, ⟨_, _, rfl, ⟨A3, c3, rfl, l3, g3⟩, ⟨A4, c4, rfl, l4, g4⟩⟩⟩⟩⟩ := h
  exact k27_mk w x l3 g3 l4 (Kd.C_imp (d := dS n) (d' := k27) (dS_sz n) (fun w x cs h => dS_K n w x cs h) g4)
theorem dS_C {n m : Nat} {w : World} {A : Option Addr} {xs : List S27} (h : Kd.C (dS n) w A m xs) : Kd.C k27 w A m xs := Kd.C_imp (d := dS n) (d' := k27) (dS_sz n) (fun w x cs h => dS_K n w x cs h) h
def kS : Kd S27 where
 sz := 5
 E := [27, 76]
 K := k27.K
 M := fun w base ok x cs => ∃ n, (dS n).M w base ok x cs
 K_len := k27.K_len
 K_one := k27.K_one
 K_below := k27.K_below
 K_of_M := fun ⟨n, h⟩ => dS_K n _ _ _ ((dS n).K_of_M h)
 M_mono := fun hok ⟨n, h⟩ => ⟨n, (dS n).M_mono hok h⟩
 M_bound := fun ⟨n, h⟩ => ⟨n, (dS n).M_mono (fun k hk => ⟨hk.1, hk.2.1, hk.2.2.1, hk.2.2.2.elim fun q hq => ⟨q, dS_E n q hq.1, hq.2⟩⟩) ((dS n).M_bound h)⟩
 M_move := fun hm ⟨n, h⟩ => ⟨n, (dS n).M_move hm h⟩
 M_lower := fun hb ⟨n, h⟩ => ⟨n, (dS n).M_lower hb h⟩
theorem max_of {P : Nat → Nat → Prop} (hm : ∀ j n m, n ≤ m → P j n → P j m) : ∀ L : Nat, (∀ j, j < L → ∃ n, P j n) → ∃ N, ∀ j, j < L → P j N
 | 0, _ => ⟨0, fun j hj => by omega⟩
 | L + 1, h => by
  obtain ⟨N, hN⟩ := max_of hm L (fun j hj => h j (by omega))
  obtain ⟨n, hn⟩ := h L (by omega)
  refine ⟨max N n, fun j hj => ?_⟩
  rcases Nat.lt_or_ge j L with hl | hl
  ·exact hm j N _ (Nat.le_max_left _ _) (hN j hl)
  ·obtain rfl : j = L := by omega
   exact hm j n _ (Nat.le_max_right _ _) hn
theorem kS_depth {w : World} {base : Nat} {ok : Nat → Prop} {v : Value} {xs : List S27} (h : Kd.S kS 27 w base ok v xs) : ∃ n, Kd.S (dS n) 27 w base ok v xs := by
 obtain ⟨f, h0, inner, ho, hr⟩ := h
 have hlen := hr.1
 obtain ⟨N, hN⟩ := max_of (P := fun j n => ∀ p, xs.zipIdx[j]? = some p → (Kd.tag f (dS n)).M w base (fun k => ok k ∧ some k ≠ v.ownBlock) p ((inner.drop (j * 5)).take 5))
  (fun j n m hnm hP p hp => dS_le hnm (hP p hp)) xs.zipIdx.length (fun j hj => by
   obtain ⟨n, hn⟩ := hr.2 j _ (List.getElem?_eq_getElem hj)
   exact ⟨n, fun p hp => by rw [List.getElem?_eq_getElem hj] at hp; obtain rfl := Option.some.inj hp; exact hn⟩)
 refine ⟨N, f, h0, inner, by rw [show (Kd.tag f (dS N)).sz = 5 from dS_sz N]; exact ho, by rw [show (Kd.tag f (dS N)).sz = 5 from dS_sz N]; exact hlen, fun j p hj => ?_⟩
 rw [show (Kd.tag f (dS N)).sz = 5 from dS_sz N]
 exact hN j (List.getElem?_eq_some_iff.1 hj).1 p hj
theorem kS_mkM (w : World) (base : Nat) (ok : Nat → Prop) (x : S27) {v3 v4 : Value} (g3 : Kd.R k76 76 w base ok v3 x.f3) (g4 : Kd.S kS 27 w base ok v4 x.f4) : kS.M w base ok x [.int .i64 x.f0, .int .i64 x.f1, .string x.f2, v3, v4] := by
 obtain ⟨n, g⟩ := kS_depth g4
 exact ⟨n + 1, dS_mk x g3 g⟩
theorem bsize {n : Nat} {W w1 : World} (h : Below n W w1) : ∃ N, N = n := ⟨_, rfl⟩
theorem S_empty {w : World} {base : Nat} {ok : Nat → Prop} {v : Value} {xs : List S27} (he : xs = []) (h : Kd.R k27 27 w base ok v xs) : Kd.S kS 27 w base ok v xs := by
 subst he
 obtain ⟨h0, inner, ho, hr⟩ := h
 exact ⟨fun _ => 0, h0, inner, ho, hr.1, fun j p hj => by simp at hj⟩
end Go.Proofs.Ytpejhapgffcngaa.QK

