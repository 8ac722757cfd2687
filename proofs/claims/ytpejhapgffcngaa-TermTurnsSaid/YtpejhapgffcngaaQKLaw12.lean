/- For TermTurns: results that may be wiped, and what the law's own variables hold. -/
import Derived.Test.YtpejhapgffcngaaXShort
import Derived.Test.YtpejhapgffcngaaRegInv
import Derived.Test.YtpejhapgffcngaaQKLawC
import Derived.Test.YtpejhapgffcngaaQKWipeR
import Derived.Test.YtpejhapgffcngaaQKWipe
import Derived.Test.YtpejhapgffcngaaQKx2
import Derived.Test.YtpejhapgffcngaaQKx12
import Derived.Test.YtpejhapgffcngaaQKx11
import Derived.Test.YtpejhapgffcngaaQKx14
import Derived.Test.YtpejhapgffcngaaQKx15
import Derived.Test.YtpejhapgffcngaaQKx8
import Derived.Test.YtpejhapgffcngaaQKx6
set_option linter.unusedVariables false
set_option linter.unusedSimpArgs false
namespace Go.Proofs.Ytpejhapgffcngaa.QK
open Go.RowKit Go.Proofs.YtpejhapgffcngaaW.PrintWords Go.Proofs.YtpejhapgffcngaaW.PrintLast Go.Proofs.YtpejhapgffcngaaW.PrintMore Go.Proofs.YtpejhapgffcngaaI
theorem LG.move {w W : World} {b e : Nat} (hs : Same w W (b, e)) {v : Value} (h : LG w b e v) : LG W b e v := by
 rcases h with h | ⟨g, n, c, cur, rfl, hb, hh, hn⟩
 ·exact Or.inl h
 ·exact Or.inr ⟨g, n, c, cur, rfl, hb, (hs g hb.1 hb.2).trans hh, hn⟩
theorem TG.move {w W : World} {b e : Nat} (hs : Same w W (b, e)) : ∀ m v, TG w b e m v → TG W b e m v
 | 0, v, h => h
 | m + 1, v, h => by
  rcases h with h | ⟨g, n, c, cur, rfl, hb, hh, hn, he⟩
  ·exact Or.inl h
  ·refine Or.inr ⟨g, n, c, cur, rfl, hb, (hs g hb.1 hb.2).trans hh, hn, fun i hi => ?_⟩
   obtain ⟨i0, i1, s, v3, v4, e0, e1, e2, e3, e4, l3, l4⟩ := he i hi
   exact ⟨i0, i1, s, v3, v4, e0, e1, e2, e3, e4, l3.move hs, TG.move hs m v4 l4⟩
structure Whl (p : Span) (A3 : Option Addr) (c3 : Nat) (A4 : Option Addr) (c4 : Nat) (x : S27) (W : World) : Prop where
 ct : CT W A3 c3 A4 c4 x
 lg : LG W p.1 p.2 (.slice A3 x.f3.length c3)
 tg : ∃ m, TG W p.1 p.2 m (.slice A4 x.f4.length c4)
def Res (w : World) (p : Span) (v : Value) (x : S27) : Prop := ∃ A3 c3 A4 c4, v = .agg #[.int .i64 x.f0, .int .i64 x.f1, .string x.f2, .slice A3 x.f3.length c3, .slice A4 x.f4.length c4] ∧ Held w p (Whl p A3 c3 A4 c4 x)
theorem Res.move {w w' : World} {p : Span} {v : Value} {x : S27} (h : Res w p v x) (hs : Same w w' p) : Res w' p v x := by
 obtain ⟨A3, c3, A4, c4, hv, hh⟩ := h
 exact ⟨A3, c3, A4, c4, hv, hh.move hs⟩
structure At (w : World) (p : Span) (g : Nat) (cs : Array Value) : Prop where
 sp : p = (g, g + 1)
 blk : w.heap[g]? = some (.cells cs 27 (0, 0))
theorem At.move {w w' : World} {p : Span} {g : Nat} {cs : Array Value} (h : At w p g cs) (hs : Same w w' p) : At w' p g cs := ⟨h.sp, by have e := h.sp; subst e; exact (hs g (Nat.le_refl _) (Nat.lt_succ_self _)).trans h.blk⟩
theorem At.cells {w : World} {p : Span} {g : Nat} {c0 c1 c2 c3 c4 : Value} (h : At w p g #[c0, c1, c2, c3, c4]) : w.cell? ⟨g, 0, none⟩ = some c0 ∧ w.cell? ⟨g, 1, none⟩ = some c1 ∧ w.cell? ⟨g, 2, none⟩ = some c2 ∧ w.cell? ⟨g, 3, none⟩ = some c3 ∧ w.cell? ⟨g, 4, none⟩ = some c4 :=
 ⟨blk_cell h.blk 0, blk_cell h.blk 1, blk_cell h.blk 2, blk_cell h.blk 3, blk_cell h.blk 4⟩
def Ptr (w : World) (p : Span) (v : Value) (cs : Array Value) : Prop := ∃ g, v = .pointer (some ⟨g, 0, none⟩) ∧ At w p g cs
theorem Ptr.move {w w' : World} {p : Span} {v : Value} {cs : Array Value} (h : Ptr w p v cs) (hs : Same w w' p) : Ptr w' p v cs := by
 obtain ⟨g, hv, ha⟩ := h
 exact ⟨g, hv, ha.move hs⟩
def Has (w : World) (p : Span) (v u : Value) : Prop := ∃ cs, u = .agg cs ∧ Ptr w p v cs
theorem Has.move {w w' : World} {p : Span} {v u : Value} (h : Has w p v u) (hs : Same w w' p) : Has w' p v u := by
 obtain ⟨cs, hu, hp⟩ := h
 exact ⟨cs, hu, hp.move hs⟩
theorem CT.same {w W : World} {b : Nat} {ok3 ok4 : Nat → Prop} {A3 A4 : Option Addr} {n3 c3 n4 c4 : Nat} {x : S27} (h3 : Kd.R k76 76 w b ok3 (.slice A3 n3 c3) x.f3) (h4 : Kd.R k27 27 w b ok4 (.slice A4 n4 c4) x.f4) (hW : Same w W (b, w.heap.size)) : CT W A3 c3 A4 c4 x := by
 obtain ⟨e3, q3, _⟩ := Kd.R_reads' h3
 obtain ⟨e4, q4, _⟩ := Kd.R_reads' h4
 subst e3; subst e4
 have g3 := (Kd.R_reads' (Kd.R_move (Kd.R_bound h3) (fun k hk => hW k hk.2.1 hk.2.2.1))).2.2
 have g4 := (Kd.R_reads' (Kd.R_move (Kd.R_bound h4) (fun k hk => hW k hk.2.1 hk.2.2.1))).2.2
 exact ⟨g3, q3, g4, q4⟩
theorem Res.of_R {w : World} {b : Nat} {ok3 ok4 : Nat → Prop} {v3 v4 : Value} {x : S27} {B : Int} (hx : WhB B x) (h3 : Kd.R k76 76 w b ok3 v3 x.f3) (h4 : Kd.R k27 27 w b ok4 v4 x.f4) : Res w (b, w.heap.size) (.agg #[.int .i64 x.f0, .int .i64 x.f1, .string x.f2, v3, v4]) x := by
 obtain ⟨C3, e3, rfl⟩ := Kd.R_slice h3
 obtain ⟨C4, e4, rfl⟩ := Kd.R_slice h4
 obtain ⟨m, hm⟩ := wipe_may hx h4
 have hl := LG.of_R h3 (by have := hx.parts.2.2.2.1; omega)
 exact ⟨C3, e3, C4, e4, rfl, fun W hW => ⟨CT.same h3 h4 hW, LG.move (e := w.heap.size) hW hl, m, TG.move (e := w.heap.size) hW m _ hm⟩⟩
section
variable {w : World} {A3 A4 B3 B4 L : Option Addr} {c3 c4 d3 d4 lc : Nat} {x y r : S27} {ls : List S76}
abbrev RP (w : World) (r : S27) (e : Ending) (w' : World) : Prop := ∃ v, e = .returned v ∧ Res w' (w.heap.size, w'.heap.size) v r ∧ Below w.heap.size w w'
theorem RP.of {w w' : World} {r : S27} {e : Ending} {B : Int} {ok3 ok4 : Value → Nat → Prop} (hr : WhB B r) (h : ∃ v3 v4 : Value, e = .returned (.agg #[.int .i64 r.f0, .int .i64 r.f1, .string r.f2, v3, v4]) ∧ Kd.R k76 76 w' w.heap.size (ok3 v3) v3 r.f3 ∧ Kd.R k27 27 w' w.heap.size (ok4 v3) v4 r.f4 ∧ Below w.heap.size w w') : RP w r e w' := by
 obtain ⟨v3, v4, rfl, h3, h4, hb⟩ := h
 exact ⟨_, rfl, Res.of_R hr h3 h4, hb⟩
theorem liftR (k : Nat) {by_ fr B : Int} (hr : WhB B r) (hx : CT w A3 c3 A4 c4 x) (h : term_Lift.f k x.f0 x.f1 x.f2 x.f3 x.f4 by_ fr = some (tup r)) :
  Calls Try.prog 41 #[.agg #[.int .i64 x.f0, .int .i64 x.f1, .string x.f2, .slice A3 x.f3.length c3, .slice A4 x.f4.length c4], .int .i64 by_, .int .i64 fr] w (RP w r) :=
 (term_Lift.calls k x.f0 x.f1 x.f2 A3 c3 x.f3 A4 c4 x.f4 by_ fr r.f0 r.f1 r.f2 r.f3 r.f4 w hx.r3 hx.l3 hx.r4 hx.l4 h).mono (fun e w' h => RP.of (ok3 := fun _ _ => True) (ok4 := fun v3 k_ => some k_ ≠ v3.ownBlock) hr h)
theorem gliftR (k : Nat) {by_ fr B : Int} (hr : WhB B r) (hx : CT w A3 c3 A4 c4 x) (h : touchstoneref5_Lift.f k x.f0 x.f1 x.f2 x.f3 x.f4 by_ fr = some (tup r)) :
  Calls Try.prog 29 #[.agg #[.int .i64 x.f0, .int .i64 x.f1, .string x.f2, .slice A3 x.f3.length c3, .slice A4 x.f4.length c4], .int .i64 by_, .int .i64 fr] w (RP w r) :=
 (touchstoneref5_Lift.calls k x.f0 x.f1 x.f2 A3 c3 x.f3 A4 c4 x.f4 by_ fr r.f0 r.f1 r.f2 r.f3 r.f4 w hx.r3 hx.l3 hx.r4 hx.l4 h).mono (fun e w' h => RP.of (ok3 := fun _ _ => True) (ok4 := fun v3 k_ => some k_ ≠ v3.ownBlock) hr h)
theorem copyR (k : Nat) {B : Int} (hr : WhB B r) (hx : CT w A3 c3 A4 c4 x) (h : touchstoneref5_Copy.f k x.f0 x.f1 x.f2 x.f3 x.f4 = some (tup r)) :
  Calls Try.prog 52 #[.agg #[.int .i64 x.f0, .int .i64 x.f1, .string x.f2, .slice A3 x.f3.length c3, .slice A4 x.f4.length c4]] w (RP w r) :=
 (touchstoneref5_Copy.calls k x.f0 x.f1 x.f2 A3 c3 x.f3 A4 c4 x.f4 r.f0 r.f1 r.f2 r.f3 r.f4 w hx.r3 hx.l3 hx.r4 hx.l4 h).mono (fun e w' h => RP.of (ok3 := fun _ _ => True) (ok4 := fun v3 k_ => some k_ ≠ v3.ownBlock) hr h)
theorem putR (k : Nat) {B : Int} (hr : WhB B r) (hx : CT w A3 c3 A4 c4 x) (hy : CT w B3 d3 B4 d4 y) (h : term_Put.f k x.f0 x.f1 x.f2 x.f3 x.f4 y.f0 y.f1 y.f2 y.f3 y.f4 = some (tup r)) :
  Calls Try.prog 42 #[.agg #[.int .i64 x.f0, .int .i64 x.f1, .string x.f2, .slice A3 x.f3.length c3, .slice A4 x.f4.length c4], .agg #[.int .i64 y.f0, .int .i64 y.f1, .string y.f2, .slice B3 y.f3.length d3, .slice B4 y.f4.length d4]] w (RP w r) :=
 (term_Put.calls k x.f0 x.f1 x.f2 A3 c3 x.f3 A4 c4 x.f4 y.f0 y.f1 y.f2 B3 d3 y.f3 B4 d4 y.f4 r.f0 r.f1 r.f2 r.f3 r.f4 w hx.r3 hx.l3 hx.r4 hx.l4 hy.r3 hy.l3 hy.r4 hy.l4 h).mono (fun e w' h => RP.of (ok3 := fun _ _ => True) (ok4 := fun v3 k_ => some k_ ≠ v3.ownBlock) hr h)
theorem gputR (k : Nat) {B : Int} (hr : WhB B r) (hx : CT w A3 c3 A4 c4 x) (hy : CT w B3 d3 B4 d4 y) (h : touchstoneref5_Put.f k x.f0 x.f1 x.f2 x.f3 x.f4 y.f0 y.f1 y.f2 y.f3 y.f4 = some (tup r)) :
  Calls Try.prog 28 #[.agg #[.int .i64 x.f0, .int .i64 x.f1, .string x.f2, .slice A3 x.f3.length c3, .slice A4 x.f4.length c4], .agg #[.int .i64 y.f0, .int .i64 y.f1, .string y.f2, .slice B3 y.f3.length d3, .slice B4 y.f4.length d4]] w (RP w r) :=
 (touchstoneref5_Put.calls k x.f0 x.f1 x.f2 A3 c3 x.f3 A4 c4 x.f4 y.f0 y.f1 y.f2 B3 d3 y.f3 B4 d4 y.f4 r.f0 r.f1 r.f2 r.f3 r.f4 w hx.r3 hx.l3 hx.r4 hx.l4 hy.r3 hy.l3 hy.r4 hy.l4 h).mono (fun e w' h => RP.of (ok3 := fun _ _ => True) (ok4 := fun v3 k_ => some k_ ≠ v3.ownBlock) hr h)
theorem levelsR (k : Nat) {B : Int} (hr : WhB B r) (hx : CT w A3 c3 A4 c4 x) (hl : Kd.C k76 w L ls.length ls) (hlc : ls.length ≤ lc) (h : term_Levels.f k x.f0 x.f1 x.f2 x.f3 x.f4 ls = some (tup r)) :
  Calls Try.prog 53 #[.agg #[.int .i64 x.f0, .int .i64 x.f1, .string x.f2, .slice A3 x.f3.length c3, .slice A4 x.f4.length c4], .slice L ls.length lc] w (RP w r) :=
 (term_Levels.calls k x.f0 x.f1 x.f2 A3 c3 x.f3 A4 c4 x.f4 L lc ls r.f0 r.f1 r.f2 r.f3 r.f4 w hx.r3 hx.l3 hx.r4 hx.l4 hl hlc h).mono (fun e w' h => RP.of (ok3 := fun _ _ => True) (ok4 := fun v3 k_ => some k_ ≠ v3.ownBlock) hr h)
theorem glevels_c (k : Nat) (hx : CT w A3 c3 A4 c4 x) (hl : Kd.C k76 w L ls.length ls) (hlc : ls.length ≤ lc) (h : touchstoneref5_Levels.f k x.f0 x.f1 x.f2 x.f3 x.f4 ls = some (tup r)) :
  Calls Try.prog 54 #[.agg #[.int .i64 x.f0, .int .i64 x.f1, .string x.f2, .slice A3 x.f3.length c3, .slice A4 x.f4.length c4], .slice L ls.length lc] w fun e w' => ∃ C3 e3 C4 e4, e = .returned (.agg #[.int .i64 r.f0, .int .i64 r.f1, .string r.f2, .slice C3 r.f3.length e3, .slice C4 r.f4.length e4]) ∧ CT w' C3 e3 C4 e4 r ∧ Below w.heap.size w w' := by
 refine (touchstoneref5_Levels.calls k x.f0 x.f1 x.f2 A3 c3 x.f3 A4 c4 x.f4 L lc ls r.f0 r.f1 r.f2 r.f3 r.f4 w hx.r3 hx.l3 hx.r4 hx.l4 hl hlc h).mono ?_
 rintro e w' ⟨v3, v4, rfl, h3, h4, hb⟩
 obtain ⟨C3, e3, rfl⟩ := Kd.N_slice h3
 obtain ⟨C4, e4, rfl⟩ := Kd.N_slice h4
 obtain ⟨_, l3, g3⟩ := Kd.N_reads' h3
 obtain ⟨_, l4, g4⟩ := Kd.N_reads' h4
 exact ⟨C3, e3, C4, e4, rfl, ⟨g3, l3, g4, l4⟩, hb⟩
theorem lightL_c (k : Nat) {b : Bool} (hl : Kd.C k76 w L ls.length ls) (hlc : ls.length ≤ lc) (h : touchstonelaw5_lightLevels.f k ls = some b) :
  Calls Try.prog 50 #[.slice L ls.length lc] w fun e w' => e = .returned (.bool b) ∧ Below w.heap.size w w' := touchstonelaw5_lightLevels.calls k L lc ls b w hl hlc h
theorem termL_c (k : Nat) {b : Bool} (hx : CT w A3 c3 A4 c4 x) (h : touchstonelaw5_termLevels.f k x.f0 x.f1 x.f2 x.f3 x.f4 = some b) :
  Calls Try.prog 51 #[.agg #[.int .i64 x.f0, .int .i64 x.f1, .string x.f2, .slice A3 x.f3.length c3, .slice A4 x.f4.length c4]] w fun e w' => e = .returned (.bool b) ∧ Below w.heap.size w w' := touchstonelaw5_termLevels.calls k x.f0 x.f1 x.f2 A3 c3 x.f3 A4 c4 x.f4 b w hx.r3 hx.l3 hx.r4 hx.l4 h
end
theorem wipeI {b : Nat} {w : World} {I : Nat → Span} (h : Own b w I) (j : Nat) {A3 A4 : Option Addr} {c3 c4 : Nat} {x : S27} (hx : Held w (I j) (Whl (I j) A3 c3 A4 c4 x)) (hle : (I j).1 ≤ w.heap.size) :
  Calls Try.prog 55 #[.agg #[.int .i64 x.f0, .int .i64 x.f1, .string x.f2, .slice A3 x.f3.length c3, .slice A4 x.f4.length c4]] w fun e w' => e = .returned (.tuple #[]) ∧ (w'.os = w.os ∧ w'.tape = w.tape ∧ w'.output = w.output ∧ w.heap.size ≤ w'.heap.size) ∧ ∀ k, k < w.heap.size → ¬ ((I j).1 ≤ k ∧ k < (I j).2) → w'.heap[k]? = w.heap[k]? := by
 obtain ⟨m, hm⟩ := hx.now.tg
 refine (wipe.calls m x.f0 x.f1 x.f2 A3 x.f3.length c3 A4 x.f4.length c4 (I j).1 (I j).2 w hle (h.le j) hx.now.lg hm).mono ?_
 rintro e w' ⟨rfl, hW⟩
 refine ⟨rfl, ⟨hW.below.os, hW.below.tape, hW.below.output, hW.below.size⟩, fun k hk hn => ?_⟩
 by_cases h1 : k < (I j).1
 ·exact hW.below.block k h1
 exact hW.out k hk (by omega)
end Go.Proofs.Ytpejhapgffcngaa.QK

