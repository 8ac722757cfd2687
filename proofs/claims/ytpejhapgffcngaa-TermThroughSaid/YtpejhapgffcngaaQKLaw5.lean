/- For laws of chapter 5 walked by hand: terms that are only read, results that keep their blocks, the boxes of the law's own. -/
import Derived.Test.YtpejhapgffcngaaQKSwap
import Derived.Test.YtpejhapgffcngaaQKPut
import Derived.Test.YtpejhapgffcngaaQKLift
import Derived.Test.YtpejhapgffcngaaQKBegun
import Derived.Test.YtpejhapgffcngaaQKx2
import Derived.Test.YtpejhapgffcngaaQKx9
import Derived.Test.YtpejhapgffcngaaQKx10
set_option linter.unusedVariables false
set_option linter.unusedSimpArgs false
namespace Go.Proofs.Ytpejhapgffcngaa.QK
open Go.RowKit Go.Proofs.YtpejhapgffcngaaW.PrintWords Go.Proofs.YtpejhapgffcngaaW.PrintLast Go.Proofs.YtpejhapgffcngaaW.PrintMore
theorem bs_ {w W : World} (h : Below w.heap.size w W := by (repeat (first | (with_reducible exact Below.refl _ _) | apply below_alloc | apply pw_below_drewN | apply below_drew1))) : Below w.heap.size w W := h
structure CT (w : World) (A3 : Option Addr) (c3 : Nat) (A4 : Option Addr) (c4 : Nat) (x : S27) : Prop where
 r3 : Kd.C k76 w A3 x.f3.length x.f3
 l3 : x.f3.length ≤ c3
 r4 : Kd.C k27 w A4 x.f4.length x.f4
 l4 : x.f4.length ≤ c4
theorem CT.below {w w1 : World} {A3 A4 : Option Addr} {c3 c4 : Nat} {x : S27} (h : CT w A3 c3 A4 c4 x) (hb : Below w.heap.size w w1) : CT w1 A3 c3 A4 c4 x := ⟨Kd.C_below h.r3 hb, h.l3, Kd.C_below h.r4 hb, h.l4⟩
structure LV (b e : Nat) (w : World) (A3 : Option Addr) (c3 : Nat) (A4 : Option Addr) (c4 : Nat) (x : S27) : Prop where
 ct : ∀ W : World, (∀ k, b ≤ k → k < e → W.heap[k]? = w.heap[k]?) → CT W A3 c3 A4 c4 x
theorem LV.move {b e : Nat} {w w1 : World} {A3 A4 : Option Addr} {c3 c4 : Nat} {x : S27} (h : LV b e w A3 c3 A4 c4 x) (hm : ∀ k, b ≤ k → k < e → w1.heap[k]? = w.heap[k]?) : LV b e w1 A3 c3 A4 c4 x := ⟨fun W hW => h.ct W (fun k h0 h1 => (hW k h0 h1).trans (hm k h0 h1))⟩
theorem LV.below {b e : Nat} {w w1 : World} {A3 A4 : Option Addr} {c3 c4 : Nat} {x : S27} (h : LV b e w A3 c3 A4 c4 x) (hb : Below w.heap.size w w1) (he : e ≤ w.heap.size) : LV b e w1 A3 c3 A4 c4 x := h.move (fun k _ h1 => hb.block k (Nat.lt_of_lt_of_le h1 he))
theorem LV.grown {b e g : Nat} {w w1 : World} {A3 A4 : Option Addr} {c3 c4 : Nat} {x : S27} (h : LV b e w A3 c3 A4 c4 x) (hb : w.grownBy w1 (some g)) (he : e ≤ w.heap.size) (hg : g < b ∨ e ≤ g) : LV b e w1 A3 c3 A4 c4 x := h.move (fun k h0 h1 => hb.block k (Nat.lt_of_lt_of_le h1 he) (fun q => by injection q with q; omega))
theorem LV.now {b e : Nat} {w : World} {A3 A4 : Option Addr} {c3 c4 : Nat} {x : S27} (h : LV b e w A3 c3 A4 c4 x) : CT w A3 c3 A4 c4 x := h.ct w (fun _ _ _ => rfl)
theorem LV.of_R {b : Nat} {w : World} {A3 A4 : Option Addr} {n3 c3 n4 c4 : Nat} {x : S27} {ok3 ok4 : Nat → Prop} (h3 : Kd.R k76 76 w b ok3 (.slice A3 n3 c3) x.f3) (h4 : Kd.R k27 27 w b ok4 (.slice A4 n4 c4) x.f4) : LV b w.heap.size w A3 c3 A4 c4 x ∧ n3 = x.f3.length ∧ n4 = x.f4.length := by
 obtain ⟨e3, q3, _⟩ := Kd.R_reads' h3
 obtain ⟨e4, q4, _⟩ := Kd.R_reads' h4
 subst e3; subst e4
 refine ⟨⟨fun W hW => ?_⟩, rfl, rfl⟩
 have g3 := (Kd.R_reads' (Kd.R_move (Kd.R_bound h3) (fun k hk => hW k hk.2.1 hk.2.2.1))).2.2
 have g4 := (Kd.R_reads' (Kd.R_move (Kd.R_bound h4) (fun k hk => hW k hk.2.1 hk.2.2.1))).2.2
 exact ⟨g3, q3, g4, q4⟩
section
variable {w : World} {A3 A4 B3 B4 : Option Addr} {c3 c4 d3 d4 : Nat} {x y r : S27}
theorem put_c (k : Nat) (hx : CT w A3 c3 A4 c4 x) (hy : CT w B3 d3 B4 d4 y) (h : term_Put.f k x.f0 x.f1 x.f2 x.f3 x.f4 y.f0 y.f1 y.f2 y.f3 y.f4 = some (tup r)) :
  Calls Try.prog 42 #[.agg #[.int .i64 x.f0, .int .i64 x.f1, .string x.f2, .slice A3 x.f3.length c3, .slice A4 x.f4.length c4], .agg #[.int .i64 y.f0, .int .i64 y.f1, .string y.f2, .slice B3 y.f3.length d3, .slice B4 y.f4.length d4]] w fun e w' => ∃ C3 e3 C4 e4, e = .returned (.agg #[.int .i64 r.f0, .int .i64 r.f1, .string r.f2, .slice C3 r.f3.length e3, .slice C4 r.f4.length e4]) ∧ LV w.heap.size w'.heap.size w' C3 e3 C4 e4 r ∧ Below w.heap.size w w' := by
 refine (term_Put.calls k x.f0 x.f1 x.f2 A3 c3 x.f3 A4 c4 x.f4 y.f0 y.f1 y.f2 B3 d3 y.f3 B4 d4 y.f4 r.f0 r.f1 r.f2 r.f3 r.f4 w hx.r3 hx.l3 hx.r4 hx.l4 hy.r3 hy.l3 hy.r4 hy.l4 h).mono ?_
 rintro e w' ⟨v3, v4, rfl, h3, h4, hb⟩
 obtain ⟨C3, e3, rfl⟩ := Kd.R_slice h3
 obtain ⟨C4, e4, rfl⟩ := Kd.R_slice h4
 exact ⟨C3, e3, C4, e4, rfl, (LV.of_R (x := r) h3 h4).1, hb⟩
theorem lift_c (k : Nat) {by_ fr : Int} (hx : CT w A3 c3 A4 c4 x) (h : term_Lift.f k x.f0 x.f1 x.f2 x.f3 x.f4 by_ fr = some (tup r)) :
  Calls Try.prog 41 #[.agg #[.int .i64 x.f0, .int .i64 x.f1, .string x.f2, .slice A3 x.f3.length c3, .slice A4 x.f4.length c4], .int .i64 by_, .int .i64 fr] w fun e w' => ∃ C3 e3 C4 e4, e = .returned (.agg #[.int .i64 r.f0, .int .i64 r.f1, .string r.f2, .slice C3 r.f3.length e3, .slice C4 r.f4.length e4]) ∧ LV w.heap.size w'.heap.size w' C3 e3 C4 e4 r ∧ Below w.heap.size w w' := by
 refine (term_Lift.calls k x.f0 x.f1 x.f2 A3 c3 x.f3 A4 c4 x.f4 by_ fr r.f0 r.f1 r.f2 r.f3 r.f4 w hx.r3 hx.l3 hx.r4 hx.l4 h).mono ?_
 rintro e w' ⟨v3, v4, rfl, h3, h4, hb⟩
 obtain ⟨C3, e3, rfl⟩ := Kd.R_slice h3
 obtain ⟨C4, e4, rfl⟩ := Kd.R_slice h4
 exact ⟨C3, e3, C4, e4, rfl, (LV.of_R (x := r) h3 h4).1, hb⟩
theorem swap_c (k : Nat) {B : Int} (hx : CT w A3 c3 A4 c4 x) (hw : WhB B r) (hs : szT r ≤ 1073741824) (h : touchstoneref5_Copy.f k x.f0 x.f1 x.f2 x.f3 x.f4 = some (tup r)) :
  Calls Try.prog 44 #[.agg #[.int .i64 x.f0, .int .i64 x.f1, .string x.f2, .slice A3 x.f3.length c3, .slice A4 x.f4.length c4]] w fun e w' => ∃ C3 e3 C4 e4, e = .returned (.agg #[.int .i64 (swT r 0).f0, .int .i64 (swT r 0).f1, .string (swT r 0).f2, .slice C3 (swT r 0).f3.length e3, .slice C4 (swT r 0).f4.length e4]) ∧ CT w' C3 e3 C4 e4 (swT r 0) ∧ Below w.heap.size w w' := by
 refine (swap.calls k x r A3 c3 A4 c4 B w hx.r3 hx.l3 hx.r4 hx.l4 hw hs h).mono ?_
 rintro e w' ⟨C3, e3, C4, e4, rfl, ⟨h1, h2, h3, h4⟩, hb⟩
 exact ⟨C3, e3, C4, e4, rfl, ⟨h1, h2, h3, h4⟩, hb⟩
theorem light_c (k : Nat) {n : Int} {b : Bool} (hx : CT w A3 c3 A4 c4 x) (h : touchstonelaw5_Light.f k x.f0 x.f1 x.f2 x.f3 x.f4 n = some b) :
  Calls Try.prog 39 #[.agg #[.int .i64 x.f0, .int .i64 x.f1, .string x.f2, .slice A3 x.f3.length c3, .slice A4 x.f4.length c4], .int .i64 n] w fun e w' => e = .returned (.bool b) ∧ Below w.heap.size w w' := touchstonelaw5_Light.calls k x.f0 x.f1 x.f2 A3 c3 x.f3 A4 c4 x.f4 n b w hx.r3 hx.l3 hx.r4 hx.l4 h
theorem far_c (k : Nat) {b : Bool} (hx : CT w A3 c3 A4 c4 x) (h : touchstonelaw5_far.f k x.f0 x.f1 x.f2 x.f3 x.f4 = some b) :
  Calls Try.prog 40 #[.agg #[.int .i64 x.f0, .int .i64 x.f1, .string x.f2, .slice A3 x.f3.length c3, .slice A4 x.f4.length c4]] w fun e w' => e = .returned (.bool b) ∧ Below w.heap.size w w' := touchstonelaw5_far.calls k x.f0 x.f1 x.f2 A3 c3 x.f3 A4 c4 x.f4 b w hx.r3 hx.l3 hx.r4 hx.l4 h
theorem equal_c (k : Nat) {b : Bool} (hx : CT w A3 c3 A4 c4 x) (hy : CT w B3 d3 B4 d4 y) (h : touchstoneref5_Equal.f k x.f0 x.f1 x.f2 x.f3 x.f4 y.f0 y.f1 y.f2 y.f3 y.f4 = some b) :
  Calls Try.prog 23 #[.agg #[.int .i64 x.f0, .int .i64 x.f1, .string x.f2, .slice A3 x.f3.length c3, .slice A4 x.f4.length c4], .agg #[.int .i64 y.f0, .int .i64 y.f1, .string y.f2, .slice B3 y.f3.length d3, .slice B4 y.f4.length d4]] w fun e w' => e = .returned (.bool b) ∧ Below w.heap.size w w' := touchstoneref5_Equal.calls k x.f0 x.f1 x.f2 A3 c3 x.f3 A4 c4 x.f4 y.f0 y.f1 y.f2 B3 d3 y.f3 B4 d4 y.f4 b w hx.r3 hx.l3 hx.r4 hx.l4 hy.r3 hy.l3 hy.r4 hy.l4 h
end
structure BX (W : World) (g : Nat) (A3 : Option Addr) (c3 : Nat) (A4 : Option Addr) (c4 : Nat) (x : S27) : Prop where
 blk : W.heap[g]? = some (.cells #[.int .i64 x.f0, .int .i64 x.f1, .string x.f2, .slice A3 x.f3.length c3, .slice A4 x.f4.length c4] 27 (0, 0))
section
variable {W W1 : World} {g h : Nat} {A3 A4 : Option Addr} {c3 c4 : Nat} {x : S27}
theorem BX.below (b : BX W g A3 c3 A4 c4 x) (hb : Below W.heap.size W W1) : BX W1 g A3 c3 A4 c4 x := ⟨blk_below b.blk hb⟩
theorem BX.grown (b : BX W g A3 c3 A4 c4 x) (hb : W.grownBy W1 (some h)) (hn : g ≠ h) : BX W1 g A3 c3 A4 c4 x := ⟨blk_grown b.blk hb (fun e => hn (Option.some.inj e))⟩
theorem BX.lt (b : BX W g A3 c3 A4 c4 x) : g < W.heap.size := blk_lt b.blk
theorem BX.cells (b : BX W g A3 c3 A4 c4 x) : W.cell? ⟨g, 0, none⟩ = some (.int .i64 x.f0) ∧ W.cell? ⟨g, 1, none⟩ = some (.int .i64 x.f1) ∧ W.cell? ⟨g, 2, none⟩ = some (.string x.f2) ∧ W.cell? ⟨g, 3, none⟩ = some (.slice A3 x.f3.length c3) ∧ W.cell? ⟨g, 4, none⟩ = some (.slice A4 x.f4.length c4) :=
 ⟨blk_cell b.blk 0, blk_cell b.blk 1, blk_cell b.blk 2, blk_cell b.blk 3, blk_cell b.blk 4⟩
theorem grown_set (w : World) (g j : Nat) (u : Value) : w.grownBy (w.setCell ⟨g, j, none⟩ u) (some g) := by
 have b := (Below.refl g w).setCell (p := ⟨g, j, none⟩) (Nat.le_refl _) u
 exact ⟨b.os, b.tape, b.output, b.size, fun k _ hk => Below.heap_setCell w ⟨g, j, none⟩ u k (fun e => hk (congrArg some e))⟩
theorem grown_then {w w1 w2 : World} {row : Option Nat} (h : w.grownBy w1 row) (k : w1.grownBy w2 row) : w.grownBy w2 row := ⟨k.os.trans h.os, k.tape.trans h.tape, k.output.trans h.output, Nat.le_trans h.size k.size, fun i hi hn => (k.block i (Nat.lt_of_lt_of_le hi h.size) hn).trans (h.block i hi hn)⟩
theorem fill5 (hz : W.heap[g]? = some (.cells #[.int .i64 0, .int .i64 0, .string (⟨#[]⟩ : ByteArray), .slice none 0 0, .slice none 0 0] 27 (0, 0))) :
  BX (((((W.setCell ⟨g, 0, none⟩ (.int .i64 x.f0)).setCell ⟨g, 1, none⟩ (.int .i64 x.f1)).setCell ⟨g, 2, none⟩ (.string x.f2)).setCell ⟨g, 3, none⟩ (.slice A3 x.f3.length c3)).setCell ⟨g, 4, none⟩ (.slice A4 x.f4.length c4)) g A3 c3 A4 c4 x ∧
   W.grownBy (((((W.setCell ⟨g, 0, none⟩ (.int .i64 x.f0)).setCell ⟨g, 1, none⟩ (.int .i64 x.f1)).setCell ⟨g, 2, none⟩ (.string x.f2)).setCell ⟨g, 3, none⟩ (.slice A3 x.f3.length c3)).setCell ⟨g, 4, none⟩ (.slice A4 x.f4.length c4)) (some g) := by
 refine ⟨⟨?_⟩, ?_⟩
 ·refine blk_put (cs := #[.int .i64 x.f0, .int .i64 x.f1, .string x.f2, .slice A3 x.f3.length c3, .slice none 0 0]) ?_ 4 _ rfl
  refine blk_put (cs := #[.int .i64 x.f0, .int .i64 x.f1, .string x.f2, .slice none 0 0, .slice none 0 0]) ?_ 3 _ rfl
  refine blk_put (cs := #[.int .i64 x.f0, .int .i64 x.f1, .string (⟨#[]⟩ : ByteArray), .slice none 0 0, .slice none 0 0]) ?_ 2 _ rfl
  refine blk_put (cs := #[.int .i64 x.f0, .int .i64 0, .string (⟨#[]⟩ : ByteArray), .slice none 0 0, .slice none 0 0]) ?_ 1 _ rfl
  exact blk_put hz 0 _ rfl
 ·exact grown_then (grown_then (grown_then (grown_then (grown_set _ _ _ _) (grown_set _ _ _ _)) (grown_set _ _ _ _)) (grown_set _ _ _ _)) (grown_set _ _ _ _)
theorem fill5' (hz : W.heap[g]? = some (.cells #[.int .i64 0, .int .i64 0, .string (⟨#[]⟩ : ByteArray), .slice none 0 0, .slice none 0 0] 27 (0, 0))) :
  BX (W.setCells g 0 [.int .i64 x.f0, .int .i64 x.f1, .string x.f2, .slice A3 x.f3.length c3, .slice A4 x.f4.length c4]) g A3 c3 A4 c4 x ∧ W.grownBy (W.setCells g 0 [.int .i64 x.f0, .int .i64 x.f1, .string x.f2, .slice A3 x.f3.length c3, .slice A4 x.f4.length c4]) (some g) := fill5 hz
end
structure LZ where
 t3 : Option Addr
 tc3 : Nat
 t4 : Option Addr
 tc4 : Nat
 v3 : Option Addr
 vc3 : Nat
 v4 : Option Addr
 vc4 : Nat
 u3 : Option Addr
 uc3 : Nat
 u4 : Option Addr
 uc4 : Nat
structure TW (w0 : World) (Z : LZ) (t v u : S27) (g3 g4 g5 : Nat) (W : World) : Prop where
 below : Below w0.heap.size w0 W
 b3 : BX W g3 Z.t3 Z.tc3 Z.t4 Z.tc4 t
 b4 : BX W g4 Z.v3 Z.vc3 Z.v4 Z.vc4 v
 b5 : BX W g5 Z.u3 Z.uc3 Z.u4 Z.uc4 u
theorem TW.step {w0 W W1 : World} {Z : LZ} {t v u : S27} {g3 g4 g5 : Nat} (h : TW w0 Z t v u g3 g4 g5 W) (hb : Below W.heap.size W W1) : TW w0 Z t v u g3 g4 g5 W1 := ⟨below_step h.below hb, h.b3.below hb, h.b4.below hb, h.b5.below hb⟩
theorem TW.grown {w0 W W1 : World} {Z : LZ} {t v u : S27} {g3 g4 g5 g : Nat} (h : TW w0 Z t v u g3 g4 g5 W) (hb : W.grownBy W1 (some g)) (h0 : w0.heap.size ≤ g) (h3 : g3 ≠ g) (h4 : g4 ≠ g) (h5 : g5 ≠ g) : TW w0 Z t v u g3 g4 g5 W1 :=
 ⟨⟨hb.os.trans h.below.os, hb.tape.trans h.below.tape, hb.output.trans h.below.output, Nat.le_trans h.below.size hb.size, fun k hk => (hb.block k (Nat.lt_of_lt_of_le hk h.below.size) (fun e => by injection e with e; omega)).trans (h.below.block k hk)⟩, h.b3.grown hb h3, h.b4.grown hb h4, h.b5.grown hb h5⟩
structure BL (W : World) (g b e : Nat) (A3 : Option Addr) (c3 : Nat) (A4 : Option Addr) (c4 : Nat) (x : S27) : Prop where
 bx : BX W g A3 c3 A4 c4 x
 lv : LV b e W A3 c3 A4 c4 x
 le : e ≤ W.heap.size
theorem BL.step {W W1 : World} {g b e : Nat} {A3 A4 : Option Addr} {c3 c4 : Nat} {x : S27} (h : BL W g b e A3 c3 A4 c4 x) (hb : Below W.heap.size W W1) : BL W1 g b e A3 c3 A4 c4 x := ⟨h.bx.below hb, h.lv.below hb h.le, Nat.le_trans h.le hb.size⟩
theorem BL.grown {W W1 : World} {g b e k : Nat} {A3 A4 : Option Addr} {c3 c4 : Nat} {x : S27} (h : BL W g b e A3 c3 A4 c4 x) (hb : W.grownBy W1 (some k)) (hn : g ≠ k) (he : e ≤ k) : BL W1 g b e A3 c3 A4 c4 x := ⟨h.bx.grown hb hn, h.lv.grown hb h.le (Or.inr he), Nat.le_trans h.le hb.size⟩
theorem BL.fill {W W1 : World} {g b e : Nat} {A3 A4 : Option Addr} {c3 c4 : Nat} {x : S27} (hx : BX W1 g A3 c3 A4 c4 x) (hb : W.grownBy W1 (some g)) (hl : LV b e W A3 c3 A4 c4 x) (he : e ≤ W.heap.size) (hg : g < b ∨ e ≤ g) : BL W1 g b e A3 c3 A4 c4 x := ⟨hx, hl.grown hb he hg, Nat.le_trans he hb.size⟩
end Go.Proofs.Ytpejhapgffcngaa.QK

