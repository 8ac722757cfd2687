/- What wipe (which writes over a term's own lists) needs: lists that may be written, whatever they share. -/
import Derived.Test.YtpejhapgffcngaaQKApart
set_option linter.unusedVariables false
set_option linter.unusedSimpArgs false
namespace Go.Proofs.Ytpejhapgffcngaa.QK
open Go.RowKit Go.Proofs.YtpejhapgffcngaaW.PrintWords Go.Proofs.YtpejhapgffcngaaW.PrintLast Go.Proofs.YtpejhapgffcngaaW.PrintMore
def LG (w : World) (b e : Nat) (v : Value) : Prop := (∃ A c, v = .slice A 0 c) ∨ ∃ h n c cur, v = .slice (some ⟨h, 0, none⟩) n c ∧ (b ≤ h ∧ h < e) ∧ w.heap[h]? = some (.cells cur 76 (0, 0)) ∧ n * 3 ≤ cur.size ∧ n ≤ 4398046511104
def TG (w : World) (b e : Nat) : Nat → Value → Prop
 | 0, v => ∃ A c, v = .slice A 0 c
 | m + 1, v => (∃ A c, v = .slice A 0 c) ∨ ∃ g n c cur, v = .slice (some ⟨g, 0, none⟩) n c ∧ (b ≤ g ∧ g < e) ∧ w.heap[g]? = some (.cells cur 27 (0, 0)) ∧ (n * 5 ≤ cur.size ∧ n ≤ 4398046511104) ∧
   ∀ i, i < n → ∃ i0 i1 s v3 v4, cur[i * 5]? = some (.int .i64 i0) ∧ cur[i * 5 + 1]? = some (.int .i64 i1) ∧ cur[i * 5 + 2]? = some (.string s) ∧ cur[i * 5 + 3]? = some v3 ∧ cur[i * 5 + 4]? = some v4 ∧ LG w b e v3 ∧ TG w b e m v4
structure Wp (b e : Nat) (w w1 : World) : Prop where
 below : Below b w w1
 out : ∀ k, k < w.heap.size → e ≤ k → w1.heap[k]? = w.heap[k]?
 lg : ∀ v, LG w b e v → LG w1 b e v
 tg : ∀ m v, TG w b e m v → TG w1 b e m v
theorem Wp.refl (b e : Nat) (w : World) : Wp b e w w := ⟨Below.refl _ _, fun _ _ _ => rfl, fun _ h => h, fun _ _ h => h⟩
theorem Wp.trans {b e : Nat} {w w1 w2 : World} (h : Wp b e w w1) (k : Wp b e w1 w2) : Wp b e w w2 := ⟨h.below.trans k.below, fun i hi he => (k.out i (Nat.lt_of_lt_of_le hi h.below.size) he).trans (h.out i hi he), fun v hv => k.lg v (h.lg v hv), fun m v hv => k.tg m v (h.tg m v hv)⟩
theorem LG.same {w w1 : World} {b e : Nat} (hs : ∀ (h : Nat) (cur : Array Value), w.heap[h]? = some (.cells cur 76 (0, 0)) → ∃ cur' : Array Value, w1.heap[h]? = some (.cells cur' 76 (0, 0)) ∧ cur'.size = cur.size) {v : Value} (h : LG w b e v) : LG w1 b e v := by
 rcases h with h | ⟨h, n, c, cur, rfl, hb, hh, hn⟩
 ·exact Or.inl h
 ·obtain ⟨cur', h1, h2⟩ := hs h cur hh
  exact Or.inr ⟨h, n, c, cur', rfl, hb, h1, by rw [h2]; exact hn⟩
theorem TG.same {w w1 : World} {b e : Nat} (hl : ∀ v, LG w b e v → LG w1 b e v) (hs : ∀ (g : Nat) (cur : Array Value), w.heap[g]? = some (.cells cur 27 (0, 0)) → ∃ cur' : Array Value, w1.heap[g]? = some (.cells cur' 27 (0, 0)) ∧ cur'.size = cur.size ∧ ∀ (i : Nat) (i0 i1 : Int) (s : ByteArray) (v3 v4 : Value), cur[i * 5]? = some (.int .i64 i0) → cur[i * 5 + 1]? = some (.int .i64 i1) → cur[i * 5 + 2]? = some (.string s) → cur[i * 5 + 3]? = some v3 → cur[i * 5 + 4]? = some v4 →
   ∃ i0' i1' s' v3' v4', cur'[i * 5]? = some (.int .i64 i0') ∧ cur'[i * 5 + 1]? = some (.int .i64 i1') ∧ cur'[i * 5 + 2]? = some (.string s') ∧ cur'[i * 5 + 3]? = some v3' ∧ cur'[i * 5 + 4]? = some v4' ∧ (v3' = v3 ∨ v3' = .slice none 0 0) ∧ (v4' = v4 ∨ v4' = .slice none 0 0)) :
  ∀ m v, TG w b e m v → TG w1 b e m v
 | 0, v, h => h
 | m + 1, v, h => by
  rcases h with h | ⟨g, n, c, cur, rfl, hb, hh, hn, he⟩
  ·exact Or.inl h
  ·obtain ⟨cur', h1, h2, h3⟩ := hs g cur hh
   refine Or.inr ⟨g, n, c, cur', rfl, hb, h1, by rw [h2]; exact hn, fun i hi => ?_⟩
   obtain ⟨i0, i1, s, v3, v4, e0, e1, e2, e3, e4, l3, l4⟩ := he i hi
   obtain ⟨i0', i1', s', v3', v4', f0, f1, f2, f3, f4, q3, q4⟩ := h3 i i0 i1 s v3 v4 e0 e1 e2 e3 e4
   refine ⟨i0', i1', s', v3', v4', f0, f1, f2, f3, f4, ?_, ?_⟩
   ·rcases q3 with rfl | rfl
    ·exact hl _ l3
    ·exact Or.inl ⟨none, 0, rfl⟩
   ·rcases q4 with rfl | rfl
    ·exact TG.same hl hs m _ l4
    ·cases m with
     | zero => exact ⟨none, 0, rfl⟩
     | succ m => exact Or.inl ⟨none, 0, rfl⟩
theorem below_setCell (w : World) (b g j : Nat) (u : Value) (hb : b ≤ g) : Below b w (w.setCell ⟨g, j, none⟩ u) := by
 have h := (Below.refl g w).setCell (p := ⟨g, j, none⟩) (Nat.le_refl _) u
 exact ⟨h.os, h.tape, h.output, h.size, fun k hk => h.block k (Nat.lt_of_lt_of_le hk hb)⟩
theorem Wp.of_below {b e : Nat} {w w1 : World} (h : Below w.heap.size w w1) (hb : b ≤ w.heap.size) : Wp b e w w1 := by
 have hl : ∀ v, LG w b e v → LG w1 b e v := fun v hv => hv.same (fun h2 cur hh => ⟨cur, blk_below hh h, rfl⟩)
 exact ⟨⟨h.os, h.tape, h.output, h.size, fun k hk => h.block k (Nat.lt_of_lt_of_le hk hb)⟩, fun k hk _ => h.block k hk, hl, TG.same hl (fun g cur hh => ⟨cur, blk_below hh h, rfl, fun i i0 i1 s v3 v4 e0 e1 e2 e3 e4 => ⟨i0, i1, s, v3, v4, e0, e1, e2, e3, e4, Or.inl rfl, Or.inl rfl⟩⟩)⟩
theorem Wp.level {b e h j : Nat} {w : World} {cur : Array Value} {u : Value} (hh : w.heap[h]? = some (.cells cur 76 (0, 0))) (hb : b ≤ h) (he : h < e) : Wp b e w (w.setCell ⟨h, j, none⟩ u) := by
 have hl : ∀ v, LG w b e v → LG (w.setCell ⟨h, j, none⟩ u) b e v := fun v hv => hv.same (fun k cur' hk => by
  by_cases ek : k = h
  ·subst ek
   rw [hh] at hk
   injection hk with hk
   injection hk with hk
   subst hk
   exact ⟨_, blk_set hh j u, by simp⟩
  ·exact ⟨cur', (Below.heap_setCell w ⟨h, j, none⟩ u k ek).trans hk, rfl⟩)
 refine ⟨below_setCell w b h j u hb, fun k _ hk => Below.heap_setCell w ⟨h, j, none⟩ u k (fun q => by subst q; omega), hl, TG.same hl (fun g cg hg => ⟨cg, ?_, rfl, fun i i0 i1 s v3 v4 e0 e1 e2 e3 e4 => ⟨i0, i1, s, v3, v4, e0, e1, e2, e3, e4, Or.inl rfl, Or.inl rfl⟩⟩)⟩
 refine (Below.heap_setCell w ⟨h, j, none⟩ u g ?_).trans hg
 intro ek
 subst ek
 rw [hh] at hg
 injection hg with hg
 injection hg with _ hg
 exact absurd hg (by decide)
theorem Wp.term {b e g j : Nat} {w : World} {cur : Array Value} {u : Value} (hh : w.heap[g]? = some (.cells cur 27 (0, 0))) (hb : b ≤ g) (he : g < e) (hu : (j % 5 = 0 ∨ j % 5 = 1) ∧ (∃ q, u = .int .i64 q) ∨ j % 5 = 2 ∧ (∃ q, u = .string q) ∨ (j % 5 = 3 ∨ j % 5 = 4) ∧ u = .slice none 0 0) : Wp b e w (w.setCell ⟨g, j, none⟩ u) := by
 have hl : ∀ v, LG w b e v → LG (w.setCell ⟨g, j, none⟩ u) b e v := fun v hv => hv.same (fun k ck hk => by
  refine ⟨ck, (Below.heap_setCell w ⟨g, j, none⟩ u k ?_).trans hk, rfl⟩
  intro ek
  subst ek
  rw [hh] at hk
  injection hk with hk
  injection hk with _ hk
  exact absurd hk (by decide))
 refine ⟨below_setCell w b g j u hb, fun k _ hk => Below.heap_setCell w ⟨g, j, none⟩ u k (fun q => by subst q; omega), hl, TG.same hl (fun k ck hk => ?_)⟩
 by_cases ek : k = g
 ·subst ek
  rw [hh] at hk
  injection hk with hk
  injection hk with hk
  subst hk
  refine ⟨cur.setIfInBounds j u, blk_set hh j u, by simp, fun i i0 i1 s v3 v4 e0 e1 e2 e3 e4 => ?_⟩
  have hset : ∀ p, p ≠ j → (cur.setIfInBounds j u)[p]? = cur[p]? := fun p hp => by rw [Array.getElem?_setIfInBounds_ne (Ne.symm hp)]
  have hin : ∀ p v, cur[p]? = some v → p = j → (cur.setIfInBounds j u)[p]? = some u := fun p v hp hj => by
   subst hj
   have := (Array.getElem?_eq_some_iff.1 hp).1
   rw [Array.getElem?_setIfInBounds_self, if_pos this]
  have pick : ∀ p v, cur[p]? = some v → (cur.setIfInBounds j u)[p]? = some v ∨ p = j ∧ (cur.setIfInBounds j u)[p]? = some u := fun p v hp => by
   by_cases hj : p = j
   ·exact Or.inr ⟨hj, hin p v hp hj⟩
   ·exact Or.inl ((hset p hj).trans hp)
  have r0 : ∃ q, (cur.setIfInBounds j u)[i * 5]? = some (.int .i64 q) := by
   rcases pick _ _ e0 with h | ⟨hj, h⟩
   ·exact ⟨_, h⟩
   ·rcases hu with ⟨_, q, rfl⟩ | ⟨hm, _⟩ | ⟨hm, _⟩
    ·exact ⟨q, h⟩
    ·omega
    ·omega
  have r1 : ∃ q, (cur.setIfInBounds j u)[i * 5 + 1]? = some (.int .i64 q) := by
   rcases pick _ _ e1 with h | ⟨hj, h⟩
   ·exact ⟨_, h⟩
   ·rcases hu with ⟨_, q, rfl⟩ | ⟨hm, _⟩ | ⟨hm, _⟩
    ·exact ⟨q, h⟩
    ·omega
    ·omega
  have r2 : ∃ q, (cur.setIfInBounds j u)[i * 5 + 2]? = some (.string q) := by
   rcases pick _ _ e2 with h | ⟨hj, h⟩
   ·exact ⟨_, h⟩
   ·rcases hu with ⟨hm, _⟩ | ⟨_, q, rfl⟩ | ⟨hm, _⟩
    ·omega
    ·exact ⟨q, h⟩
    ·omega
  have r3 : ∃ q, (cur.setIfInBounds j u)[i * 5 + 3]? = some q ∧ (q = v3 ∨ q = .slice none 0 0) := by
   rcases pick _ _ e3 with h | ⟨hj, h⟩
   ·exact ⟨_, h, Or.inl rfl⟩
   ·rcases hu with ⟨hm, _⟩ | ⟨hm, _⟩ | ⟨_, rfl⟩
    ·omega
    ·omega
    ·exact ⟨_, h, Or.inr rfl⟩
  have r4 : ∃ q, (cur.setIfInBounds j u)[i * 5 + 4]? = some q ∧ (q = v4 ∨ q = .slice none 0 0) := by
   rcases pick _ _ e4 with h | ⟨hj, h⟩
   ·exact ⟨_, h, Or.inl rfl⟩
   ·rcases hu with ⟨hm, _⟩ | ⟨hm, _⟩ | ⟨_, rfl⟩
    ·omega
    ·omega
    ·exact ⟨_, h, Or.inr rfl⟩
  obtain ⟨q0, r0⟩ := r0
  obtain ⟨q1, r1⟩ := r1
  obtain ⟨q2, r2⟩ := r2
  obtain ⟨q3, r3, s3⟩ := r3
  obtain ⟨q4, r4, s4⟩ := r4
  exact ⟨q0, q1, q2, q3, q4, r0, r1, r2, r3, r4, s3, s4⟩
 ·exact ⟨ck, (Below.heap_setCell w ⟨g, j, none⟩ u k ek).trans hk, rfl, fun i i0 i1 s v3 v4 e0 e1 e2 e3 e4 => ⟨i0, i1, s, v3, v4, e0, e1, e2, e3, e4, Or.inl rfl, Or.inl rfl⟩⟩
theorem LG.len {w : World} {b e n c : Nat} {A : Option Addr} (h : LG w b e (.slice A n c)) : n ≤ 4398046511104 := by
 rcases h with ⟨_, _, h⟩ | ⟨g, n', c', cur, hv, hb, hh, hn⟩
 ·injection h with _ hn _
  omega
 ·injection hv with _ hn' _
  subst hn'
  exact hn.2
theorem TG.len {w : World} {b e n c : Nat} {A : Option Addr} : ∀ {m : Nat}, TG w b e m (.slice A n c) → n ≤ 4398046511104
 | 0, h => by
  obtain ⟨_, _, h⟩ := h
  injection h with _ hn _
  omega
 | m + 1, h => by
  rcases h with ⟨_, _, h⟩ | ⟨g, n', c', cur, hv, hb, hh, hn, _⟩
  ·injection h with _ hn _
   omega
  ·injection hv with _ hn' _
   subst hn'
   exact hn.2
theorem LG.elem {w : World} {b e n c : Nat} {A : Option Addr} (h : LG w b e (.slice A n c)) (i : Int) (h0 : 0 ≤ i) (h1 : i < n) :
  ∃ (g : Nat) (ad : Addr) (cur : Array Value), A = some ad ∧ ad = ⟨g, 0, none⟩ ∧ (b ≤ g ∧ g < e) ∧ w.heap[g]? = some (.cells cur 76 (0, 0)) ∧ i.toNat * 3 + 3 ≤ cur.size := by
 rcases h with ⟨_, _, h⟩ | ⟨g, n', c', cur, hv, hb, hh, hn⟩
 ·injection h with _ hn _
  omega
 ·injection hv with hA hn' _
  subst hn'; subst hA
  exact ⟨g, ⟨g, 0, none⟩, cur, rfl, rfl, hb, hh, by omega⟩
theorem Wp.wipe5 {b e g p : Nat} {w : World} {cur : Array Value} (hh : w.heap[g]? = some (.cells cur 27 (0, 0))) (hb : b ≤ g) (he : g < e) (hp : p % 5 = 0) :
  Wp b e w (((((w.setCell ⟨g, p, none⟩ (.int .i64 77)).setCell ⟨g, p + 1, none⟩ (.int .i64 0)).setCell ⟨g, p + 2, none⟩ (.string (⟨#[]⟩ : ByteArray))).setCell ⟨g, p + 3, none⟩ (.slice none 0 0)).setCell ⟨g, p + 4, none⟩ (.slice none 0 0)) := by
 have h1 := blk_set hh p (.int .i64 77)
 have h2 := blk_set h1 (p + 1) (.int .i64 0)
 have h3 := blk_set h2 (p + 2) (.string (⟨#[]⟩ : ByteArray))
 have h4 := blk_set h3 (p + 3) (.slice none 0 0)
 exact ((((Wp.term hh hb he (Or.inl ⟨Or.inl hp, _, rfl⟩)).trans (Wp.term h1 hb he (Or.inl ⟨Or.inr (by omega), _, rfl⟩))).trans (Wp.term h2 hb he (Or.inr (Or.inl ⟨by omega, _, rfl⟩)))).trans (Wp.term h3 hb he (Or.inr (Or.inr ⟨Or.inl (by omega), rfl⟩)))).trans (Wp.term h4 hb he (Or.inr (Or.inr ⟨Or.inr (by omega), rfl⟩)))
theorem Wp.wipe3 {b e g p : Nat} {w : World} {cur : Array Value} (hh : w.heap[g]? = some (.cells cur 76 (0, 0))) (hb : b ≤ g) (he : g < e) (u0 u1 u2 : Value) : Wp b e w (((w.setCell ⟨g, p, none⟩ u0).setCell ⟨g, p + 1, none⟩ u1).setCell ⟨g, p + 2, none⟩ u2) :=
 ((Wp.level hh hb he).trans (Wp.level (blk_set hh p u0) hb he)).trans (Wp.level (blk_set (blk_set hh p u0) (p + 1) u1) hb he)
theorem TG.elem {w : World} {b e m n c : Nat} {A : Option Addr} (h : TG w b e m (.slice A n c)) (i : Int) (h0 : 0 ≤ i) (h1 : i < n) :
  ∃ (m' g : Nat) (ad : Addr) (cur : Array Value) (i0 i1 : Int) (s : ByteArray) (A3 : Option Addr) (n3 c3 : Nat) (A4 : Option Addr) (n4 c4 : Nat), m = m' + 1 ∧ A = some ad ∧ ad = ⟨g, 0, none⟩ ∧ (b ≤ g ∧ g < e) ∧ w.heap[g]? = some (.cells cur 27 (0, 0)) ∧ i.toNat * 5 + 5 ≤ cur.size ∧
   (w.cell? (ad.add (i.toNat * 5)) = some (.int .i64 i0) ∧ w.cell? ⟨(ad.add (i.toNat * 5)).block, (ad.add (i.toNat * 5)).off + 1, none⟩ = some (.int .i64 i1) ∧ w.cell? ⟨(ad.add (i.toNat * 5)).block, (ad.add (i.toNat * 5)).off + 2, none⟩ = some (.string s) ∧ w.cell? ⟨(ad.add (i.toNat * 5)).block, (ad.add (i.toNat * 5)).off + 3, none⟩ = some (.slice A3 n3 c3) ∧ w.cell? ⟨(ad.add (i.toNat * 5)).block, (ad.add (i.toNat * 5)).off + 4, none⟩ = some (.slice A4 n4 c4)) ∧
   (∀ j, w.frozen? ⟨(ad.add (i.toNat * 5)).block, j, none⟩ = false) ∧ LG w b e (.slice A3 n3 c3) ∧ TG w b e m' (.slice A4 n4 c4) := by
 cases m with
 | zero =>
  obtain ⟨_, _, h⟩ := h
  injection h with _ hn _
  omega
 | succ m =>
  rcases h with ⟨_, _, h⟩ | ⟨g, n', c', cur, hv, hb, hh, hn, hx⟩
  ·injection h with _ hn _
   omega
  ·injection hv with hA hn' _
   subst hn'; subst hA
   obtain ⟨i0, i1, s, v3, v4, e0, e1, e2, e3, e4, l3, l4⟩ := hx i.toNat (by omega)
   have g3 : ∃ A3 n3 c3, v3 = .slice A3 n3 c3 := by
    rcases l3 with ⟨_, _, rfl⟩ | ⟨_, _, _, _, rfl, _⟩
    ·exact ⟨_, _, _, rfl⟩
    ·exact ⟨_, _, _, rfl⟩
   have g4 : ∃ A4 n4 c4, v4 = .slice A4 n4 c4 := by
    cases m with
    | zero => obtain ⟨_, _, rfl⟩ := l4; exact ⟨_, _, _, rfl⟩
    | succ m =>
     rcases l4 with ⟨_, _, rfl⟩ | ⟨_, _, _, _, rfl, _⟩
     ·exact ⟨_, _, _, rfl⟩
     ·exact ⟨_, _, _, rfl⟩
   obtain ⟨A3, n3, c3, rfl⟩ := g3
   obtain ⟨A4, n4, c4, rfl⟩ := g4
   have ha : (⟨g, 0, none⟩ : Addr).add (i.toNat * 5) = ⟨g, i.toNat * 5, none⟩ := by rw [add_at, Nat.zero_add]
   refine ⟨m, g, ⟨g, 0, none⟩, cur, i0, i1, s, A3, n3, c3, A4, n4, c4, rfl, rfl, rfl, hb, hh, by omega, ?_, ?_, l3, l4⟩
   ·rw [ha]
    exact ⟨(blk_cell hh _).trans e0, (blk_cell hh _).trans e1, (blk_cell hh _).trans e2, (blk_cell hh _).trans e3, (blk_cell hh _).trans e4⟩
   ·intro j
    rw [ha]
    exact blk_frozen hh j
section
variable {P : Program} {ops : Array Oper} {rest : List Oper} {o : Oper} {a : Act} {Q : Exit → Act → World → Prop}
end
end Go.Proofs.Ytpejhapgffcngaa.QK

