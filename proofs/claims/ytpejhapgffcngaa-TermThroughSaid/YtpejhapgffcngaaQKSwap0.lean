/- What swapAt (which stores into its own term's lists) needs: what is changed, an element lent and put back. -/
import Derived.Test.YtpejhapgffcngaaQKApart
import Derived.Test.YtpejhapgffcngaaQKThroughPure
set_option linter.unusedVariables false
set_option linter.unusedSimpArgs false
namespace Go.Proofs.Ytpejhapgffcngaa.QK
open Go.RowKit Go.Proofs.YtpejhapgffcngaaW.PrintWords Go.Proofs.YtpejhapgffcngaaW.PrintLast Go.Proofs.YtpejhapgffcngaaW.PrintMore
structure Chg (b : Nat) (ok : Nat → Prop) (w w1 : World) : Prop where
 below : Below b w w1
 same : ∀ k, k < w.heap.size → ¬ (ok k ∧ ∃ cs, w.heap[k]? = some (.cells cs 27 (0, 0))) → w1.heap[k]? = w.heap[k]?
theorem Chg.refl (b : Nat) (ok : Nat → Prop) (w : World) : Chg b ok w w := ⟨Below.refl _ _, fun _ _ _ => rfl⟩
theorem Chg.of_below {b : Nat} {ok : Nat → Prop} {w w1 : World} (h : Below w.heap.size w w1) (hb : b ≤ w.heap.size) : Chg b ok w w1 := ⟨⟨h.os, h.tape, h.output, h.size, fun k hk => h.block k (Nat.lt_of_lt_of_le hk hb)⟩, fun k hk _ => h.block k hk⟩
theorem Chg.trans {b : Nat} {ok : Nat → Prop} {w w1 w2 : World} (h : Chg b ok w w1) (k : Chg b ok w1 w2) : Chg b ok w w2 := by
 refine ⟨h.below.trans k.below, fun i hi hn => ?_⟩
 have e := h.same i hi hn
 rw [k.same i (Nat.lt_of_lt_of_le hi h.below.size) (by rw [e]; exact hn), e]
theorem Chg.mono {b : Nat} {ok ok' : Nat → Prop} {w w1 : World} (h : Chg b ok w w1) (hok : ∀ k, ok k → ok' k) : Chg b ok' w w1 := ⟨h.below, fun k hk hn => h.same k hk (fun h2 => hn ⟨hok k h2.1, h2.2⟩)⟩
theorem Chg.blk {b : Nat} {ok : Nat → Prop} {w w1 : World} {g : Nat} {o : Obj} (h : Chg b ok w w1) (hg : ¬ ok g) (hh : w.heap[g]? = some o) : w1.heap[g]? = some o := (h.same g (blk_lt hh) (fun h2 => hg h2.1)).trans hh
theorem Chg.grown {b g : Nat} {ok : Nat → Prop} {w w1 : World} {cs : Array Value} (hg : w.grownBy w1 (some g)) (ho : ok g) (hh : w.heap[g]? = some (.cells cs 27 (0, 0))) (hb : b ≤ g) (hb2 : b ≤ w.heap.size) : Chg b ok w w1 :=
 ⟨⟨hg.os, hg.tape, hg.output, hg.size, fun k hk => hg.block k (Nat.lt_of_lt_of_le hk hb2) (fun e => by injection e with e; omega)⟩, fun k hk hn => hg.block k hk (fun e => by injection e with e; subst e; exact hn ⟨ho, cs, hh⟩)⟩
theorem Chg.far {b : Nat} {ok : Nat → Prop} {w w1 : World} (h : Chg b ok w w1) {p : Addr} (hp : w.heap.size ≤ p.block) (hb : b ≤ w.heap.size) (u : Value) : Chg b ok w (w1.setCell p u) := by
 have h2 := (Below.refl p.block w1).setCell (p := p) (Nat.le_refl _) u
 exact ⟨h.below.trans ⟨h2.os, h2.tape, h2.output, h2.size, fun k hk => h2.block k (by omega)⟩, fun k hk hn => (h2.block k (by omega)).trans (h.same k hk hn)⟩
theorem Chg.drew {b : Nat} {ok : Nat → Prop} {w w1 : World} (h : Chg b ok w w1) : Chg b ok w w1.drew := ⟨h.below.drew, h.same⟩
theorem Chg.drewN {b : Nat} {ok : Nat → Prop} {w w1 : World} (h : Chg b ok w w1) (m : Nat) : Chg b ok w (w1.drewN m) := ⟨pw_below_drewN h.below m, h.same⟩
theorem Chg.R3 {b base : Nat} {ok oki : Nat → Prop} {w w1 : World} {v : Value} {ls : List S76} (h : Chg b ok w w1) (hR : Kd.R k76 76 w base oki v ls) : Kd.R k76 76 w1 base oki v ls := by
 refine Kd.R_mono (Kd.R_move (Kd.R_bound hR) (fun k hk => h.same k hk.2.2.1 ?_)) (fun k hk => hk.1)
 rintro ⟨_, cs, e⟩
 obtain ⟨_, _, _, q, hq, cells, e2⟩ := hk
 have e3 := e2.symm.trans e
 simp only [Option.some.injEq, Obj.cells.injEq] at e3
 have e4 := e3.2.1
 have : q = 76 := by
  rcases List.mem_cons.1 hq with rfl | hq
  ·rfl
  ·simpa [k76, Kd.fix] using hq
 rw [this] at e4
 exact absurd e4 (by decide)
theorem elem_lent {n : Nat} {w : World} {b : Nat} {ok : Nat → Prop} {A : Option Addr} {L c : Nat} {ys : List S27} (h : Kd.S (dS n) 27 w b ok (.slice A L c) ys) (i : Int) (h0 : 0 ≤ i) (h1 : i < L) :
  ∃ (m g : Nat) (ad : Addr) (A3 : Option Addr) (c3 : Nat) (A4 : Option Addr) (c4 : Nat) (oki : Nat → Prop) (cur : Array Value), n = m + 1 ∧ A = some ad ∧ ad = ⟨g, 0, none⟩ ∧
   (w.cell? (ad.add (i.toNat * 5)) = some (.int .i64 (rd_T27 ys i).f0) ∧ w.cell? ⟨(ad.add (i.toNat * 5)).block, (ad.add (i.toNat * 5)).off + 1, none⟩ = some (.int .i64 (rd_T27 ys i).f1) ∧ w.cell? ⟨(ad.add (i.toNat * 5)).block, (ad.add (i.toNat * 5)).off + 2, none⟩ = some (.string (rd_T27 ys i).f2) ∧ w.cell? ⟨(ad.add (i.toNat * 5)).block, (ad.add (i.toNat * 5)).off + 3, none⟩ = some (.slice A3 (rd_T27 ys i).f3.length c3) ∧ w.cell? ⟨(ad.add (i.toNat * 5)).block, (ad.add (i.toNat * 5)).off + 4, none⟩ = some (.slice A4 (rd_T27 ys i).f4.length c4)) ∧
   Kd.R k76 76 w b oki (.slice A3 (rd_T27 ys i).f3.length c3) (rd_T27 ys i).f3 ∧ Kd.S (dS m) 27 w b oki (.slice A4 (rd_T27 ys i).f4.length c4) (rd_T27 ys i).f4 ∧ (∀ k, oki k → ok k ∧ k ≠ g) ∧ ok g ∧ b ≤ g ∧ w.heap[g]? = some (.cells cur 27 (0, 0)) ∧ i.toNat * 5 + 5 ≤ cur.size ∧
   Kd.H (dS n) 27 w b ok (.slice (some ⟨g, 0, none⟩) L c) ys i oki [.int .i64 (rd_T27 ys i).f0, .int .i64 (rd_T27 ys i).f1, .string (rd_T27 ys i).f2, .slice A3 (rd_T27 ys i).f3.length c3, .slice A4 (rd_T27 ys i).f4.length c4] := by
 have hC := (Kd.R_reads' (Kd.S_R h)).2.2
 obtain ⟨ad, _, _, _, _, rfl, _⟩ := at_T27 (dS_C hC) i h0 (by have := (Kd.R_reads' (Kd.S_R h)).1; omega)
 obtain ⟨g, rfl⟩ := Kd.R_head (Kd.S_R h)
 obtain ⟨oki, cs, hcl, hM, hcc, hoki, hH⟩ := Kd.S_lend h z27 i h0 h1
 have hsz : (dS n).sz = 5 := dS_sz n
 cases n with
 | zero => exact hM.elim
 | succ m =>
  obtain ⟨v3, v4, rfl, g3, g4⟩ := dS_open hM
  obtain ⟨A3, c3, rfl⟩ := Kd.R_slice g3
  obtain ⟨A4, c4, rfl⟩ := Kd.R_slice (Kd.S_R g4)
  have hbg : b ≤ g := Kd.R_base (Kd.S_R h) g (by simp [Value.ownBlock])
  obtain ⟨hR0, inner, ho, hr⟩ := Kd.S_R h
  have hin : inner.length = ys.length * 5 := by have := hr.1; rw [hsz] at this; exact this
  have hnx : L = ys.length := (Kd.R_reads' (Kd.S_R h)).1
  have hblk : ∃ cur, w.heap[g]? = some (.cells cur 27 (0, 0)) ∧ i.toNat * 5 + 5 ≤ cur.size := by
   rcases ho.2 with ⟨hv, _⟩ | ⟨g', cap', cur, hv, _, hh, hnc, _, hcs, _⟩
   ·cases hv
   ·injection hv with ha _ hc
    injection ha with ha
    injection ha with hg'
    subst hg'; subst hc
    rw [hsz] at hcs
    exact ⟨cur, hh, by rw [hcs]; omega⟩
  obtain ⟨cur, hh, hfit⟩ := hblk
  rw [hsz] at hcc
  have hcc' : ∀ j u, ([.int .i64 (ys.getD i.toNat z27).f0, .int .i64 (ys.getD i.toNat z27).f1, .string (ys.getD i.toNat z27).f2, .slice A3 (ys.getD i.toNat z27).f3.length c3, .slice A4 (ys.getD i.toNat z27).f4.length c4] : List Value)[j]? = some u → w.cell? ((⟨g, 0, none⟩ : Addr).add (i.toNat * 5 + j)) = some u := fun j u hu => by
   rw [add_at, Nat.zero_add]
   exact hcc j u hu
  refine ⟨m, g, ⟨g, 0, none⟩, A3, c3, A4, c4, oki, cur, rfl, rfl, rfl, ⟨?_, ?_, ?_, ?_, ?_⟩, g3, g4, hoki, hR0 g (by simp [Value.ownBlock]), hbg, hh, hfit, hH⟩
  ·exact hcc' 0 _ rfl
  ·rw [← add_field _ _ 1 (by omega)]; exact hcc' 1 _ rfl
  ·rw [← add_field _ _ 2 (by omega)]; exact hcc' 2 _ rfl
  ·rw [← add_field _ _ 3 (by omega)]; exact hcc' 3 _ rfl
  ·rw [← add_field _ _ 4 (by omega)]; exact hcc' 4 _ rfl
theorem elem_back {m g : Nat} {w w1 : World} {b : Nat} {ok oki : Nat → Prop} {L c : Nat} {ys : List S27} {i : Int} {a0 a1 a2 a3 a4 v3 v4 : Value} {x' : S27} (h : Kd.H (dS (m + 1)) 27 w b ok (.slice (some ⟨g, 0, none⟩) L c) ys i oki [a0, a1, a2, a3, a4]) (hoki : ∀ k, oki k → ok k ∧ k ≠ g) (h0 : 0 ≤ i) (h1 : i < L)
  (hC : Chg b oki w w1) (g3 : Kd.R k76 76 w b oki v3 x'.f3) (g4 : Kd.S (dS m) 27 w1 b oki v4 x'.f4) :
  Kd.S (dS (m + 1)) 27 (w1.setCells g (i.toNat * 5) [.int .i64 x'.f0, .int .i64 x'.f1, .string x'.f2, v3, v4]) b ok (.slice (some ⟨g, 0, none⟩) L c) (ys.set i.toNat x') ∧ w1.grownBy (w1.setCells g (i.toNat * 5) [.int .i64 x'.f0, .int .i64 x'.f1, .string x'.f2, v3, v4]) (some g) := by
 have hM := dS_mk x' (hC.R3 g3) g4
 have h2 := Kd.H_step h (fun k hk hn hlt => hC.same k hlt (fun h => hn h.1))
 have hsz : (dS (m + 1)).sz = 5 := dS_sz _
 obtain ⟨h3, hg⟩ := Kd.H_seg (j := 0) (seg := [.int .i64 x'.f0, .int .i64 x'.f1, .string x'.f2, v3, v4]) h2 h0 h1 (by rw [hsz]; simp) (fun q hq => (dS (m + 1)).K_one ((dS (m + 1)).K_of_M hM) q hq)
 rw [hsz] at h3 hg
 exact ⟨Kd.H_back h3 (Kd.M_step hM (fun k hk hlt => hg.block k hlt (fun e => (hoki k hk).2 (by injection e)))) (fun _ hk => hk), hg⟩
section
variable {P : Program} {ops : Array Oper} {o : Oper} {a : Act} {Q : Exit → Act → World → Prop} {Kc : Act → World → Prop}
theorem store_step {W : World} (hw : Region.wanted o (yielded ops a.tmps) = true) (hN : o.dst = none) (t : TypeId) (p x : Operand) (ho : o.op = .store t p x) {g off : Nat} {cur : Array Value} {e : TypeId} {u : Value} (seg : List Value) (haddr : a.eval p = .pointer (some ⟨g, off, none⟩)) (hx : a.eval x = u)
  (hh : W.heap[g]? = some (.cells cur e (0, 0))) (hu : u.cells.toList = seg) (ht : (P.info? t).map (·.size) = some seg.length) (hfit : off + seg.length ≤ cur.size) (h1 : ∀ q ∈ seg, q.oneCell' = true) (h : Kc (a.put none undef) (W.setCells g off seg)) :
  if Region.wanted o (yielded ops a.tmps) = true then Oper.wp P o a W Kc Q else Kc (a.put o.dst undef) W := by
 have hrun := run_store_run (P := P) t u seg hh hu ht hfit h1
 rw [if_pos hw]
 unfold Oper.wp execOp
 simp only [ho, haddr, hx, Sem.run_bind, Sem.run_pure, Result.andThen_ok, hrun]
 show Kc (a.put o.dst undef) _
 rw [hN]
 exact h
end
def swY (x : S27) (q : Int) (j : Nat) : List S27 := (swL x.f0 0 x.f4 q).take j ++ x.f4.drop j
theorem swY_zero (x : S27) (q : Int) : swY x q 0 = x.f4 := by simp [swY]
theorem swY_all (x : S27) (q : Int) {j : Nat} (h : x.f4.length ≤ j) : swY x q j = swL x.f0 0 x.f4 q := by
 unfold swY
 rw [List.take_of_length_le (by rw [swL_len]; exact h), List.drop_eq_nil_of_le h, List.append_nil]
theorem swL_at (kd q : Int) : ∀ (ar : List S27) (i j : Nat), j < ar.length → (swL kd i ar q)[j]? = some (swT (ar.getD j z27) (q + bn kd (i + j)))
 | a :: ar, i, 0, _ => by rw [swL_cons]; simp
 | a :: ar, i, j + 1, h => by
  rw [swL_cons, List.getElem?_cons_succ, swL_at kd q ar (i + 1) j (by simpa using h)]
  rw [show i + 1 + j = i + (j + 1) by omega]
  rfl
theorem swY_get (x : S27) (q : Int) {j : Nat} (h : j < x.f4.length) : (swY x q j).getD j z27 = x.f4.getD j z27 := by
 unfold swY
 rw [List.getD_eq_getElem?_getD, List.getElem?_append_right (by rw [List.length_take, swL_len]; omega), List.length_take, swL_len, show min j x.f4.length = j by omega, Nat.sub_self, List.getElem?_drop, Nat.add_zero, ← List.getD_eq_getElem?_getD]
theorem swY_set (x : S27) (q : Int) {j : Nat} (h : j < x.f4.length) : (swY x q j).set j (swT (x.f4.getD j z27) (q + bn x.f0 j)) = swY x q (j + 1) := by
 have hl : (swL x.f0 0 x.f4 q).length = x.f4.length := swL_len _ _ _ _
 have hs := swL_at x.f0 q x.f4 0 j h
 rw [Nat.zero_add] at hs
 unfold swY
 rw [List.set_append_right _ _ (by rw [List.length_take, hl]; omega), List.length_take, hl, show min j x.f4.length = j by omega, Nat.sub_self, List.drop_eq_getElem_cons h, List.set_cons_zero, List.take_add_one, hs]
 simp
end Go.Proofs.Ytpejhapgffcngaa.QK

