/- For laws of chapter 5 walked by hand: terms that are only read, results that keep their blocks, boxes. -/
import Derived.Test.YtpejhapgffcngaaQKPut
import Derived.Test.YtpejhapgffcngaaQKLift
import Derived.Test.YtpejhapgffcngaaQKTree
import Derived.Test.YtpejhapgffcngaaQKx2
import Derived.Test.YtpejhapgffcngaaQKx12
import Derived.Test.YtpejhapgffcngaaQKx11
set_option linter.unusedVariables false
set_option linter.unusedSimpArgs false
namespace Go.Proofs.Ytpejhapgffcngaa.QK
open Go.RowKit Go.Proofs.YtpejhapgffcngaaW.PrintWords Go.Proofs.YtpejhapgffcngaaW.PrintLast Go.Proofs.YtpejhapgffcngaaW.PrintMore
theorem bs_ {w W : World} (h : Below w.heap.size w W := by (repeat (first | (with_reducible exact Below.refl _ _) | apply below_alloc | apply pw_below_drewN | apply below_drew1))) : Below w.heap.size w W := h
structure CT (w : World) (A3 : Option Addr) (c3 : Nat) (A4 : Option Addr) (c4 : Nat) (x : S27) : Prop where
 r3 : Kd.C k76 w A3 x.f3.length x.f3
 l3 : x.f3.length ≤ c3
 r4 : Kd.C k27 w A4 x.f4.length x.f4
 l4 : x.f4.length ≤ c4
theorem CT.below {w w1 : World} {A3 A4 : Option Addr} {c3 c4 : Nat} {x : S27} (h : CT w A3 c3 A4 c4 x) (hb : Below w.heap.size w w1) : CT w1 A3 c3 A4 c4 x := ⟨Kd.C_below h.r3 hb, h.l3, Kd.C_below h.r4 hb, h.l4⟩
section
variable {w : World} {A3 A4 B3 B4 : Option Addr} {c3 c4 d3 d4 : Nat} {x y r : S27}
theorem light_c (k : Nat) {n : Int} {b : Bool} (hx : CT w A3 c3 A4 c4 x) (h : touchstonelaw5_Light.f k x.f0 x.f1 x.f2 x.f3 x.f4 n = some b) :
  Calls Try.prog 39 #[.agg #[.int .i64 x.f0, .int .i64 x.f1, .string x.f2, .slice A3 x.f3.length c3, .slice A4 x.f4.length c4], .int .i64 n] w fun e w' => e = .returned (.bool b) ∧ Below w.heap.size w w' := touchstonelaw5_Light.calls k x.f0 x.f1 x.f2 A3 c3 x.f3 A4 c4 x.f4 n b w hx.r3 hx.l3 hx.r4 hx.l4 h
theorem equal_c (k : Nat) {b : Bool} (hx : CT w A3 c3 A4 c4 x) (hy : CT w B3 d3 B4 d4 y) (h : touchstoneref5_Equal.f k x.f0 x.f1 x.f2 x.f3 x.f4 y.f0 y.f1 y.f2 y.f3 y.f4 = some b) :
  Calls Try.prog 23 #[.agg #[.int .i64 x.f0, .int .i64 x.f1, .string x.f2, .slice A3 x.f3.length c3, .slice A4 x.f4.length c4], .agg #[.int .i64 y.f0, .int .i64 y.f1, .string y.f2, .slice B3 y.f3.length d3, .slice B4 y.f4.length d4]] w fun e w' => e = .returned (.bool b) ∧ Below w.heap.size w w' := touchstoneref5_Equal.calls k x.f0 x.f1 x.f2 A3 c3 x.f3 A4 c4 x.f4 y.f0 y.f1 y.f2 B3 d3 y.f3 B4 d4 y.f4 b w hx.r3 hx.l3 hx.r4 hx.l4 hy.r3 hy.l3 hy.r4 hy.l4 h
end
structure BX (W : World) (g : Nat) (A3 : Option Addr) (c3 : Nat) (A4 : Option Addr) (c4 : Nat) (x : S27) : Prop where
 blk : W.heap[g]? = some (.cells #[.int .i64 x.f0, .int .i64 x.f1, .string x.f2, .slice A3 x.f3.length c3, .slice A4 x.f4.length c4] 27 (0, 0))
section
variable {W W1 : World} {g h : Nat} {A3 A4 : Option Addr} {c3 c4 : Nat} {x : S27}
theorem BX.below (b : BX W g A3 c3 A4 c4 x) (hb : Below W.heap.size W W1) : BX W1 g A3 c3 A4 c4 x := ⟨blk_below b.blk hb⟩
theorem BX.grown (b : BX W g A3 c3 A4 c4 x) (hb : W.grownBy W1 (some h)) (hn : g ≠ h) : BX W1 g A3 c3 A4 c4 x := ⟨blk_grown b.blk hb (fun e => hn (Option.some.inj e))⟩
theorem BX.lt (b : BX W g A3 c3 A4 c4 x) : g < W.heap.size := blk_lt b.blk
theorem BX.cells (b : BX W g A3 c3 A4 c4 x) : W.cell? ⟨g, 0, none⟩ = some (.int .i64 x.f0) ∧ W.cell? ⟨g, 1, none⟩ = some (.int .i64 x.f1) ∧ W.cell? ⟨g, 2, none⟩ = some (.string x.f2) ∧ W.cell? ⟨g, 3, none⟩ = some (.slice A3 x.f3.length c3) ∧ W.cell? ⟨g, 4, none⟩ = some (.slice A4 x.f4.length c4) :=
 ⟨blk_cell b.blk 0, blk_cell b.blk 1, blk_cell b.blk 2, blk_cell b.blk 3, blk_cell b.blk 4⟩
theorem grown_set (w : World) (g j : Nat) (u : Value) : w.grownBy (w.setCell ⟨g, j, none⟩ u) (some g) := by
 have b := (Below.refl g w).setCell (p := ⟨g, j, none⟩) (Nat.le_refl _) u
 exact ⟨b.os, b.tape, b.output, b.size, fun k _ hk => Below.heap_setCell w ⟨g, j, none⟩ u k (fun e => hk (congrArg some e))⟩
theorem grown_then {w w1 w2 : World} {row : Option Nat} (h : w.grownBy w1 row) (k : w1.grownBy w2 row) : w.grownBy w2 row := ⟨k.os.trans h.os, k.tape.trans h.tape, k.output.trans h.output, Nat.le_trans h.size k.size, fun i hi hn => (k.block i (Nat.lt_of_lt_of_le hi h.size) hn).trans (h.block i hi hn)⟩
theorem fill5 (hz : W.heap[g]? = some (.cells #[.int .i64 0, .int .i64 0, .string (⟨#[]⟩ : ByteArray), .slice none 0 0, .slice none 0 0] 27 (0, 0))) :
  BX (((((W.setCell ⟨g, 0, none⟩ (.int .i64 x.f0)).setCell ⟨g, 1, none⟩ (.int .i64 x.f1)).setCell ⟨g, 2, none⟩ (.string x.f2)).setCell ⟨g, 3, none⟩ (.slice A3 x.f3.length c3)).setCell ⟨g, 4, none⟩ (.slice A4 x.f4.length c4)) g A3 c3 A4 c4 x ∧
   W.grownBy (((((W.setCell ⟨g, 0, none⟩ (.int .i64 x.f0)).setCell ⟨g, 1, none⟩ (.int .i64 x.f1)).setCell ⟨g, 2, none⟩ (.string x.f2)).setCell ⟨g, 3, none⟩ (.slice A3 x.f3.length c3)).setCell ⟨g, 4, none⟩ (.slice A4 x.f4.length c4)) (some g) := by
 refine ⟨⟨?_⟩, ?_⟩
 ·refine blk_put (cs := #[.int .i64 x.f0, .int .i64 x.f1, .string x.f2, .slice A3 x.f3.length c3, .slice none 0 0]) ?_ 4 _ rfl
  refine blk_put (cs := #[.int .i64 x.f0, .int .i64 x.f1, .string x.f2, .slice none 0 0, .slice none 0 0]) ?_ 3 _ rfl
  refine blk_put (cs := #[.int .i64 x.f0, .int .i64 x.f1, .string (⟨#[]⟩ : ByteArray), .slice none 0 0, .slice none 0 0]) ?_ 2 _ rfl
  refine blk_put (cs := #[.int .i64 x.f0, .int .i64 0, .string (⟨#[]⟩ : ByteArray), .slice none 0 0, .slice none 0 0]) ?_ 1 _ rfl
  exact blk_put hz 0 _ rfl
 ·exact grown_then (grown_then (grown_then (grown_then (grown_set _ _ _ _) (grown_set _ _ _ _)) (grown_set _ _ _ _)) (grown_set _ _ _ _)) (grown_set _ _ _ _)
theorem fill5' (hz : W.heap[g]? = some (.cells #[.int .i64 0, .int .i64 0, .string (⟨#[]⟩ : ByteArray), .slice none 0 0, .slice none 0 0] 27 (0, 0))) :
  BX (W.setCells g 0 [.int .i64 x.f0, .int .i64 x.f1, .string x.f2, .slice A3 x.f3.length c3, .slice A4 x.f4.length c4]) g A3 c3 A4 c4 x ∧ W.grownBy (W.setCells g 0 [.int .i64 x.f0, .int .i64 x.f1, .string x.f2, .slice A3 x.f3.length c3, .slice A4 x.f4.length c4]) (some g) := fill5 hz
end
end Go.Proofs.Ytpejhapgffcngaa.QK

