/- TermTurns: the law's walk, by hand. -/
import Derived.Test.YtpejhapgffcngaaXShort
import Derived.Test.YtpejhapgffcngaaQKLaw12
import Derived.Test.YtpejhapgffcngaaQKBegun
import Derived.Deep.DeepMust
set_option linter.unusedVariables false
set_option linter.unusedSimpArgs false
namespace Go.Proofs.Ytpejhapgffcngaa.QK
open Go.RowKit Go.Proofs.YtpejhapgffcngaaW.PrintWords Go.Proofs.YtpejhapgffcngaaW.PrintLast Go.Proofs.YtpejhapgffcngaaW.PrintMore Go.Proofs.YtpejhapgffcngaaI
section
variable {P : Program} {ops : Array Oper} {o : Oper} {a : Act} {Q : Exit → Act → World → Prop} {Kc : Act → World → Prop}
theorem store_own {W : World} (hw : Region.wanted o (yielded ops a.tmps) = true) (hN : o.dst = none) (t : TypeId) (p x : Operand) (ho : o.op = .store t p x) {g off : Nat} {cur : Array Value} {e : TypeId} {u : Value} (seg : List Value) (haddr : a.eval p = .pointer (some ⟨g, off, none⟩)) (hx : a.eval x = u)
  (hh : W.heap[g]? = some (.cells cur e (0, 0))) (hu : u.cells.toList = seg) (ht : (P.info? t).map (·.size) = some seg.length) (hfit : off + seg.length ≤ cur.size) (h1 : ∀ q ∈ seg, q.oneCell' = true) (h : Kc (a.put none undef) (W.setCells g off seg)) :
  if Region.wanted o (yielded ops a.tmps) = true then Oper.wp P o a W Kc Q else Kc (a.put o.dst undef) W := by
 have hrun := run_store_run (P := P) t u seg hh hu ht hfit h1
 rw [if_pos hw]
 unfold Oper.wp execOp
 simp only [ho, haddr, hx, Sem.run_bind, Sem.run_pure, Result.andThen_ok, hrun]
 show Kc (a.put o.dst undef) _
 rw [hN]
 exact h
end
structure LZ12 where
 t3 : Option Addr
 tc3 : Nat
 t4 : Option Addr
 tc4 : Nat
 v3 : Option Addr
 vc3 : Nat
 v4 : Option Addr
 vc4 : Nat
 l : Option Addr
 lc : Nat
structure LX12 where
 a3 : Option Addr
 ac3 : Nat
 a4 : Option Addr
 ac4 : Nat
 b3 : Option Addr
 bc3 : Nat
 b4 : Option Addr
 bc4 : Nat
 c3 : Option Addr
 cc3 : Nat
 c4 : Option Addr
 cc4 : Nat
structure T2 (w0 : World) (Z : LZ12) (t v : S27) (g5 g6 : Nat) (W : World) : Prop where
 below : Below w0.heap.size w0 W
 lo5 : w0.heap.size ≤ g5
 lo6 : w0.heap.size ≤ g6
 ne : g5 ≠ g6
 b5 : BX W g5 Z.t3 Z.tc3 Z.t4 Z.tc4 t
 b6 : BX W g6 Z.v3 Z.vc3 Z.v4 Z.vc4 v
theorem T2.step {w0 W W1 : World} {Z : LZ12} {t v : S27} {g5 g6 : Nat} (h : T2 w0 Z t v g5 g6 W) (hb : Below W.heap.size W W1) : T2 w0 Z t v g5 g6 W1 := ⟨below_step h.below hb, h.lo5, h.lo6, h.ne, h.b5.below hb, h.b6.below hb⟩
theorem T2.own {w0 W : World} {Z : LZ12} {t v : S27} {g5 g6 : Nat} (h : T2 w0 Z t v g5 g6 W) : ∃ I, Own w0.heap.size W I ∧ I 0 = (g5, g5 + 1) ∧ I 1 = (g6, g6 + 1) := by
 have h5 := h.b5.lt
 have h6 := h.b6.lt
 have l5 := h.lo5
 have l6 := h.lo6
 have hne := h.ne
 have hs := h.below.size
 refine ⟨fun i => if i = 0 then (g5, g5 + 1) else if i = 1 then (g6, g6 + 1) else (w0.heap.size, w0.heap.size), ⟨fun i => ?_, fun i => ?_, fun i => ?_, fun i j hij => ?_⟩, rfl, rfl⟩
 ·split
  ·exact l5
  ·split
   ·exact l6
   ·exact Nat.le_refl _
 ·split
  ·exact Nat.le_succ _
  ·split
   ·exact Nat.le_succ _
   ·exact Nat.le_refl _
 ·split
  ·exact h5
  ·split
   ·exact h6
   ·exact hs
 ·rcases i with _ | _ | i <;> rcases j with _ | _ | j <;> simp at hij ⊢ <;> omega
inductive Go12 (k : Nat) (t v : S27) (ls : List S76) : Bool → Prop
 | c0  (h0 : Aside0 (touchstonelaw5_Light.f k t.f0 t.f1 t.f2 t.f3 t.f4 1000 = some false)) : Go12 k t v ls true
 | c1 (h0 : Aside0 (touchstonelaw5_Light.f k t.f0 t.f1 t.f2 t.f3 t.f4 1000 = some true)) (h1 : Aside0 (touchstonelaw5_Light.f k v.f0 v.f1 v.f2 v.f3 v.f4 300 = some false)) : Go12 k t v ls true
 | c2 (h0 : Aside0 (touchstonelaw5_Light.f k t.f0 t.f1 t.f2 t.f3 t.f4 1000 = some true)) (h1 : Aside0 (touchstonelaw5_Light.f k v.f0 v.f1 v.f2 v.f3 v.f4 300 = some true)) (h2 : decide ((ls.length : Int) > 6) = true) : Go12 k t v ls true
 | c3 (h0 : Aside0 (touchstonelaw5_Light.f k t.f0 t.f1 t.f2 t.f3 t.f4 1000 = some true)) (h1 : Aside0 (touchstonelaw5_Light.f k v.f0 v.f1 v.f2 v.f3 v.f4 300 = some true)) (h2 : decide ((ls.length : Int) > 6) = false) (h3 : Aside0 (touchstonelaw5_lightLevels.f k ls = some false)) : Go12 k t v ls true
 | c4 (h0 : Aside0 (touchstonelaw5_Light.f k t.f0 t.f1 t.f2 t.f3 t.f4 1000 = some true)) (h1 : Aside0 (touchstonelaw5_Light.f k v.f0 v.f1 v.f2 v.f3 v.f4 300 = some true)) (h2 : decide ((ls.length : Int) > 6) = false) (h3 : Aside0 (touchstonelaw5_lightLevels.f k ls = some true)) (h4 : Aside0 (touchstonelaw5_termLevels.f k t.f0 t.f1 t.f2 t.f3 t.f4 = some false)) : Go12 k t v ls true
 | c5 (d : Bool) (h0 : Aside0 (touchstonelaw5_Light.f k t.f0 t.f1 t.f2 t.f3 t.f4 1000 = some true)) (h1 : Aside0 (touchstonelaw5_Light.f k v.f0 v.f1 v.f2 v.f3 v.f4 300 = some true)) (h2 : decide ((ls.length : Int) > 6) = false) (h3 : Aside0 (touchstonelaw5_lightLevels.f k ls = some true)) (h4 : Aside0 (touchstonelaw5_termLevels.f k t.f0 t.f1 t.f2 t.f3 t.f4 = some true)) (h5 : Aside0 (touchstonelaw5_termLevels.f k v.f0 v.f1 v.f2 v.f3 v.f4 = some d)) : Go12 k t v ls (!d)
structure Res12 (k : Nat) (t v : S27) (by_ fr : Int) (ls : List S76) (a b c : S27) : Prop where
 hc : touchstoneref5_Copy.f k t.f0 t.f1 t.f2 t.f3 t.f4 = some (tup t)
 hp : touchstoneref5_Copy.f k v.f0 v.f1 v.f2 v.f3 v.f4 = some (tup v)
 ha : term_Lift.f k t.f0 t.f1 t.f2 t.f3 t.f4 by_ fr = some (tup a)
 hb : term_Put.f k t.f0 t.f1 t.f2 t.f3 t.f4 v.f0 v.f1 v.f2 v.f3 v.f4 = some (tup b)
 hl : term_Levels.f k t.f0 t.f1 t.f2 t.f3 t.f4 ls = some (tup c)
 ga : touchstoneref5_Lift.f k t.f0 t.f1 t.f2 t.f3 t.f4 by_ fr = some (tup a)
 gb : touchstoneref5_Put.f k t.f0 t.f1 t.f2 t.f3 t.f4 v.f0 v.f1 v.f2 v.f3 v.f4 = some (tup b)
 gl : touchstoneref5_Levels.f k t.f0 t.f1 t.f2 t.f3 t.f4 ls = some (tup c)
 ea : touchstoneref5_Equal.f k a.f0 a.f1 a.f2 a.f3 a.f4 a.f0 a.f1 a.f2 a.f3 a.f4 = some true
 wa : ∃ B, WhB B a
 eb : touchstoneref5_Equal.f k b.f0 b.f1 b.f2 b.f3 b.f4 b.f0 b.f1 b.f2 b.f3 b.f4 = some true
 wb : ∃ B, WhB B b
 ec : touchstoneref5_Equal.f k c.f0 c.f1 c.f2 c.f3 c.f4 c.f0 c.f1 c.f2 c.f3 c.f4 = some true
 wc : ∃ B, WhB B c
 et : touchstoneref5_Equal.f k t.f0 t.f1 t.f2 t.f3 t.f4 t.f0 t.f1 t.f2 t.f3 t.f4 = some true
 wt : ∃ B, WhB B t
 ev : touchstoneref5_Equal.f k v.f0 v.f1 v.f2 v.f3 v.f4 v.f0 v.f1 v.f2 v.f3 v.f4 = some true
 wv : ∃ B, WhB B v
structure F5 (w0 : World) (Z : LZ12) (t v : S27) (ls : List S76) (g5 g6 : Nat) (I : Nat → Span) (D : Nat → Bool) (xs : Nat → Value) (W : World) : Prop where
 below : Below w0.heap.size w0 W
 own : Own w0.heap.size W I
 b0 : At W (I 0) g5 #[.int .i64 t.f0, .int .i64 t.f1, .string t.f2, .slice Z.t3 t.f3.length Z.tc3, .slice Z.t4 t.f4.length Z.tc4]
 b1 : At W (I 1) g6 #[.int .i64 v.f0, .int .i64 v.f1, .string v.f2, .slice Z.v3 v.f3.length Z.vc3, .slice Z.v4 v.f4.length Z.vc4]
 x0 : D 0 = true → xs 47 = (.agg #[.int .i64 t.f0, .int .i64 t.f1, .string t.f2, .slice Z.t3 t.f3.length Z.tc3, .slice Z.t4 t.f4.length Z.tc4])
 c1 : D 1 = true → Res W (I 4) (xs 48) t
 x2 : D 2 = true → xs 49 = (.agg #[.int .i64 v.f0, .int .i64 v.f1, .string v.f2, .slice Z.v3 v.f3.length Z.vc3, .slice Z.v4 v.f4.length Z.vc4])
 c3 : D 3 = true → Res W (I 5) (xs 50) v
 a4 : D 4 = true → D 6 = false → Ptr W (I 2) (xs 11) #[.int .i64 0, .int .i64 0, .string (⟨#[]⟩ : ByteArray), .slice none 0 0, .slice none 0 0]
 a5 : D 5 = true → D 7 = false → Ptr W (I 3) (xs 12) #[.int .i64 0, .int .i64 0, .string (⟨#[]⟩ : ByteArray), .slice none 0 0, .slice none 0 0]
 s6 : D 6 = true → (D 4 = true ∧ D 1 = true) ∧ Has W (I 2) (xs 11) (xs 48)
 s7 : D 7 = true → (D 5 = true ∧ D 3 = true) ∧ Has W (I 3) (xs 12) (xs 50)
structure F6 (w0 : World) (Z : LZ12) (t v : S27) (ls : List S76) (g5 g6 ga gb : Nat) (Y : LZ12) (by_ fr : Int) (a b c : S27) (I : Nat → Span) (D : Nat → Bool) (xs : Nat → Value) (W : World) : Prop where
 below : Below w0.heap.size w0 W
 own : Own w0.heap.size W I
 b0 : At W (I 0) g5 #[.int .i64 t.f0, .int .i64 t.f1, .string t.f2, .slice Z.t3 t.f3.length Z.tc3, .slice Z.t4 t.f4.length Z.tc4]
 b1 : At W (I 1) g6 #[.int .i64 v.f0, .int .i64 v.f1, .string v.f2, .slice Z.v3 v.f3.length Z.vc3, .slice Z.v4 v.f4.length Z.vc4]
 b2 : At W (I 2) ga #[.int .i64 t.f0, .int .i64 t.f1, .string t.f2, .slice Y.t3 t.f3.length Y.tc3, .slice Y.t4 t.f4.length Y.tc4]
 b3 : At W (I 3) gb #[.int .i64 v.f0, .int .i64 v.f1, .string v.f2, .slice Y.v3 v.f3.length Y.vc3, .slice Y.v4 v.f4.length Y.vc4]
 k4 : Held W (I 4) (Whl (I 4) Y.t3 Y.tc3 Y.t4 Y.tc4 t)
 k5 : Held W (I 5) (Whl (I 5) Y.v3 Y.vc3 Y.v4 Y.vc4 v)
 x0 : D 0 = true → xs 51 = (.agg #[.int .i64 t.f0, .int .i64 t.f1, .string t.f2, .slice Z.t3 t.f3.length Z.tc3, .slice Z.t4 t.f4.length Z.tc4])
 x1 : D 1 = true → xs 52 = (.int .i64 by_)
 x2 : D 2 = true → xs 53 = (.int .i64 fr)
 c3 : D 3 = true → Res W (I 6) (xs 54) a
 x4 : D 4 = true → xs 55 = (.agg #[.int .i64 t.f0, .int .i64 t.f1, .string t.f2, .slice Z.t3 t.f3.length Z.tc3, .slice Z.t4 t.f4.length Z.tc4])
 x5 : D 5 = true → xs 56 = (.agg #[.int .i64 v.f0, .int .i64 v.f1, .string v.f2, .slice Z.v3 v.f3.length Z.vc3, .slice Z.v4 v.f4.length Z.vc4])
 c6 : D 6 = true → Res W (I 7) (xs 57) b
 x7 : D 7 = true → xs 58 = (.agg #[.int .i64 t.f0, .int .i64 t.f1, .string t.f2, .slice Z.t3 t.f3.length Z.tc3, .slice Z.t4 t.f4.length Z.tc4])
 x8 : D 8 = true → xs 59 = (.slice Z.l ls.length Z.lc)
 c9 : D 9 = true → Res W (I 8) (xs 60) c
 a10 : D 10 = true → D 13 = false → Ptr W (I 9) (xs 13) #[.int .i64 0, .int .i64 0, .string (⟨#[]⟩ : ByteArray), .slice none 0 0, .slice none 0 0]
 a11 : D 11 = true → D 14 = false → Ptr W (I 10) (xs 14) #[.int .i64 0, .int .i64 0, .string (⟨#[]⟩ : ByteArray), .slice none 0 0, .slice none 0 0]
 a12 : D 12 = true → D 15 = false → Ptr W (I 11) (xs 15) #[.int .i64 0, .int .i64 0, .string (⟨#[]⟩ : ByteArray), .slice none 0 0, .slice none 0 0]
 s13 : D 13 = true → (D 10 = true ∧ D 3 = true) ∧ Has W (I 9) (xs 13) (xs 54)
 s14 : D 14 = true → (D 11 = true ∧ D 6 = true) ∧ Has W (I 10) (xs 14) (xs 57)
 s15 : D 15 = true → (D 12 = true ∧ D 9 = true) ∧ Has W (I 11) (xs 15) (xs 60)
structure F7 (w0 : World) (Z : LZ12) (t v : S27) (ls : List S76) (g5 g6 ga gb : Nat) (Y : LZ12) (gA gB gC : Nat) (X : LX12) (a b c : S27) (I : Nat → Span) (W : World) : Prop where
 below : Below w0.heap.size w0 W
 own : Own w0.heap.size W I
 b0 : At W (I 0) g5 #[.int .i64 t.f0, .int .i64 t.f1, .string t.f2, .slice Z.t3 t.f3.length Z.tc3, .slice Z.t4 t.f4.length Z.tc4]
 b1 : At W (I 1) g6 #[.int .i64 v.f0, .int .i64 v.f1, .string v.f2, .slice Z.v3 v.f3.length Z.vc3, .slice Z.v4 v.f4.length Z.vc4]
 b2 : At W (I 2) ga #[.int .i64 t.f0, .int .i64 t.f1, .string t.f2, .slice Y.t3 t.f3.length Y.tc3, .slice Y.t4 t.f4.length Y.tc4]
 b3 : At W (I 3) gb #[.int .i64 v.f0, .int .i64 v.f1, .string v.f2, .slice Y.v3 v.f3.length Y.vc3, .slice Y.v4 v.f4.length Y.vc4]
 k4 : Held W (I 4) (Whl (I 4) Y.t3 Y.tc3 Y.t4 Y.tc4 t)
 k5 : Held W (I 5) (Whl (I 5) Y.v3 Y.vc3 Y.v4 Y.vc4 v)
 bA : At W (I 9) gA #[.int .i64 a.f0, .int .i64 a.f1, .string a.f2, .slice X.a3 a.f3.length X.ac3, .slice X.a4 a.f4.length X.ac4]
 bB : At W (I 10) gB #[.int .i64 b.f0, .int .i64 b.f1, .string b.f2, .slice X.b3 b.f3.length X.bc3, .slice X.b4 b.f4.length X.bc4]
 bC : At W (I 11) gC #[.int .i64 c.f0, .int .i64 c.f1, .string c.f2, .slice X.c3 c.f3.length X.cc3, .slice X.c4 c.f4.length X.cc4]
theorem F7.step {w0 W W1 : World} {Z Y : LZ12} {t v a b c : S27} {ls : List S76} {g5 g6 ga gb gA gB gC : Nat} {X : LX12} {I : Nat → Span} (h : F7 w0 Z t v ls g5 g6 ga gb Y gA gB gC X a b c I W) (hb : Below W.heap.size W W1) : F7 w0 Z t v ls g5 g6 ga gb Y gA gB gC X a b c I W1 := by
 have F := aS h
 have hS := h.own.same hb
 exact ⟨below_step h.below hb, h.own.grow hb.size, F.out.b0.move (hS 0), F.out.b1.move (hS 1), F.out.b2.move (hS 2), F.out.b3.move (hS 3), F.out.k4.move (hS 4), F.out.k5.move (hS 5), F.out.bA.move (hS 9), F.out.bB.move (hS 10), F.out.bC.move (hS 11)⟩
theorem F7.mv {w0 W W1 : World} {Z Y : LZ12} {t v a b c : S27} {ls : List S76} {g5 g6 ga gb gA gB gC : Nat} {X : LX12} {I : Nat → Span} (h : F7 w0 Z t v ls g5 g6 ga gb Y gA gB gC X a b c I W) (j : Nat) (hj : 6 ≤ j ∧ j ≤ 8) (hS : ∀ i, i ≠ j → Same W W1 (I i)) (ho : W1.os = W.os) (ht : W1.tape = W.tape) (hu : W1.output = W.output) (hs : W.heap.size ≤ W1.heap.size) (hc : ∀ k, k < W.heap.size → ¬ ((I j).1 ≤ k ∧ k < (I j).2) → W1.heap[k]? = W.heap[k]?) : F7 w0 Z t v ls g5 g6 ga gb Y gA gB gC X a b c I W1 := by
 have F := aS h
 exact ⟨h.below.trans (h.own.base (Nat.le_refl _) j ho ht hu hs h.below.size hc), h.own.grow hs, F.out.b0.move (hS 0 (by omega)), F.out.b1.move (hS 1 (by omega)), F.out.b2.move (hS 2 (by omega)), F.out.b3.move (hS 3 (by omega)), F.out.k4.move (hS 4 (by omega)), F.out.k5.move (hS 5 (by omega)), F.out.bA.move (hS 9 (by omega)), F.out.bB.move (hS 10 (by omega)), F.out.bC.move (hS 11 (by omega))⟩
theorem F7.lo {w0 W : World} {Z Y : LZ12} {t v a b c : S27} {ls : List S76} {g5 g6 ga gb gA gB gC : Nat} {X : LX12} {I : Nat → Span} (h : F7 w0 Z t v ls g5 g6 ga gb Y gA gB gC X a b c I W) (j : Nat) : (I j).1 ≤ W.heap.size := by
 exact Nat.le_trans (h.own.lo j) (h.own.le j)
set_option maxHeartbeats 8000000 in
set_option maxRecDepth 100000 in
theorem turns.walk (k : Nat) (Z : LZ12) (t v : S27) (by_ fr : Int) (ls : List S76) (b0 : Bool) (w : World) (hct : CT w Z.t3 Z.tc3 Z.t4 Z.tc4 t) (hcv : CT w Z.v3 Z.vc3 Z.v4 Z.vc4 v) (hcl : Kd.C k76 w Z.l ls.length ls ∧ ls.length ≤ Z.lc) (hbg : touchstonelaw5_begun.f k = some true) (hG : Go12 k t v ls b0) (hR : b0 = false → ∃ a b c : S27, Res12 k t v by_ fr ls a b c) :
  Calls Try.prog 12 #[.agg #[.int .i64 t.f0, .int .i64 t.f1, .string t.f2, .slice Z.t3 t.f3.length Z.tc3, .slice Z.t4 t.f4.length Z.tc4], .agg #[.int .i64 v.f0, .int .i64 v.f1, .string v.f2, .slice Z.v3 v.f3.length Z.vc3, .slice Z.v4 v.f4.length Z.vc4], .int .i64 by_, .int .i64 fr, .slice Z.l ls.length Z.lc] w fun e w' => e = .returned (.bool true) ∧ Below w.heap.size w w' := by
 have hu27 := Try.underlying27
 have Ct := aS hct
 have Cv := aS hcv
 have Cl := aS hcl
 have HBG := aS hbg
 have HG := aS hG
 have HR := aS hR
 have HB := aS (Below.refl w.heap.size w)
 clear hct hcv hcl hbg hG hR
 go_enter Try.func12, Try.ntmps12
 go_upto_region 3 with (first | ((with_reducible refine gate_dst (N := 5) rfl ?_); refine bx (N := 5) (t := 27) #[.int .i64 t.f0, .int .i64 t.f1, .string t.f2, .slice Z.t3 t.f3.length Z.tc3, .slice Z.t4 t.f4.length Z.tc4] ?_; go_must (intro g5 hg5 w5 hbox hb; have X5 : Aside0 (BX w5 g5 Z.t3 Z.tc3 Z.t4 Z.tc4 t) := ⟨⟨hbox⟩⟩; have HB' := aS (below_step (by repeat (first | (with_reducible exact Below.refl _ _) | (with_reducible exact HB.out) | apply below_alloc | apply pw_below_drewN | apply below_drew1)) hb); clear HB; have HB := HB'; clear HB'; have GE5 : Aside0 (w.heap.size ≤ g5) := ⟨by rw [hg5]; exact below_size (w := w) bs_⟩; clear hg5 hbox hb)) | ((with_reducible refine gate_dst (N := 6) rfl ?_); refine bx (N := 6) (t := 27) #[.int .i64 v.f0, .int .i64 v.f1, .string v.f2, .slice Z.v3 v.f3.length Z.vc3, .slice Z.v4 v.f4.length Z.vc4] ?_; go_must (intro g6 hg6 w6 hbox hb; have X6 : Aside0 (BX w6 g6 Z.v3 Z.vc3 Z.v4 Z.vc4 v) := ⟨⟨hbox⟩⟩; have hbs := below_step bs_ hb; have GE6 : Aside0 (w.heap.size ≤ g6) := ⟨by rw [hg6]; exact below_size (w := w) (by repeat (first | (with_reducible exact Below.refl _ _) | (with_reducible exact HB.out) | apply below_alloc | apply pw_below_drewN | apply below_drew1))⟩; have NE56 : g5 ≠ g6 := (by have hl5 := X5.out.lt; have hz5 : g5 < g6 := (by rw [hg6]; exact Nat.lt_of_lt_of_le hl5 (below_size bs_)); exact Nat.ne_of_lt hz5); have HT : Aside0 (T2 w Z t v g5 g6 w6) := ⟨⟨below_step HB.out hbs, GE5.out, GE6.out, NE56, X5.out.below hbs, X6.out⟩⟩; clear X5 X6 HB hbs NE56; clear hg6 hbox hb)) | (go_at_call 38; (with_reducible refine (touchstonelaw5_begun.calls k true _ HBG.out).mono ?_); rintro e w7 ⟨rfl, hb⟩; replace HT := aS (T2.step (HT.out.step bs_) hb); clear hb))
 (try simp only [Act.put, List.setIfInBounds_toArray, List.set_cons_zero, List.set_cons_succ])
 go_cut [46] (fun v46 wc => v46 = .bool b0 ∧ Aside0 (T2 w Z t v g5 g6 wc))
 case first =>
  have G := HG.out
  clear HG HR
  obtain ⟨y50_, y51_, y52_, y53_, y54_⟩ := HT.out.b5.cells
  obtain ⟨y60_, y61_, y62_, y63_, y64_⟩ := HT.out.b6.cells
  cases G with
  | c0 h0 =>
   go_wp2_with (first | (go_at_call 39; (with_reducible refine (light_c k (Ct.out.below (below_step HT.out.below bs_)) h0.out).mono ?_); rintro e wz0 ⟨rfl, hb⟩; clear y50_ y51_ y52_ y53_ y54_ y60_ y61_ y62_ y63_ y64_; replace HT := aS (T2.step (HT.out.step bs_) hb); clear hb; obtain ⟨y50_, y51_, y52_, y53_, y54_⟩ := HT.out.b5.cells; obtain ⟨y60_, y61_, y62_, y63_, y64_⟩ := HT.out.b6.cells))
   go_meet
   case rel => exact ⟨rfl, ⟨(HT.out.step bs_)⟩⟩
  | c1 h0 h1 =>
   go_wp2_with (first | (go_at_call 39; (with_reducible refine (light_c k (Ct.out.below (below_step HT.out.below bs_)) h0.out).mono ?_); rintro e wz0 ⟨rfl, hb⟩; clear y50_ y51_ y52_ y53_ y54_ y60_ y61_ y62_ y63_ y64_; replace HT := aS (T2.step (HT.out.step bs_) hb); clear hb; obtain ⟨y50_, y51_, y52_, y53_, y54_⟩ := HT.out.b5.cells; obtain ⟨y60_, y61_, y62_, y63_, y64_⟩ := HT.out.b6.cells) | (go_at_call 39; (with_reducible refine (light_c k (Cv.out.below (below_step HT.out.below bs_)) h1.out).mono ?_); rintro e wz1 ⟨rfl, hb⟩; clear y50_ y51_ y52_ y53_ y54_ y60_ y61_ y62_ y63_ y64_; replace HT := aS (T2.step (HT.out.step bs_) hb); clear hb; obtain ⟨y50_, y51_, y52_, y53_, y54_⟩ := HT.out.b5.cells; obtain ⟨y60_, y61_, y62_, y63_, y64_⟩ := HT.out.b6.cells))
   go_meet
   case rel => exact ⟨rfl, ⟨(HT.out.step bs_)⟩⟩
  | c2 h0 h1 h2 =>
   go_wp2_with (first | (go_at_call 39; (with_reducible refine (light_c k (Ct.out.below (below_step HT.out.below bs_)) h0.out).mono ?_); rintro e wz0 ⟨rfl, hb⟩; clear y50_ y51_ y52_ y53_ y54_ y60_ y61_ y62_ y63_ y64_; replace HT := aS (T2.step (HT.out.step bs_) hb); clear hb; obtain ⟨y50_, y51_, y52_, y53_, y54_⟩ := HT.out.b5.cells; obtain ⟨y60_, y61_, y62_, y63_, y64_⟩ := HT.out.b6.cells) | (go_at_call 39; (with_reducible refine (light_c k (Cv.out.below (below_step HT.out.below bs_)) h1.out).mono ?_); rintro e wz1 ⟨rfl, hb⟩; clear y50_ y51_ y52_ y53_ y54_ y60_ y61_ y62_ y63_ y64_; replace HT := aS (T2.step (HT.out.step bs_) hb); clear hb; obtain ⟨y50_, y51_, y52_, y53_, y54_⟩ := HT.out.b5.cells; obtain ⟨y60_, y61_, y62_, y63_, y64_⟩ := HT.out.b6.cells))
   go_meet
   case rel => exact ⟨rfl, ⟨(HT.out.step bs_)⟩⟩
  | c3 h0 h1 h2 h3 =>
   go_wp2_with (first | (go_at_call 39; (with_reducible refine (light_c k (Ct.out.below (below_step HT.out.below bs_)) h0.out).mono ?_); rintro e wz0 ⟨rfl, hb⟩; clear y50_ y51_ y52_ y53_ y54_ y60_ y61_ y62_ y63_ y64_; replace HT := aS (T2.step (HT.out.step bs_) hb); clear hb; obtain ⟨y50_, y51_, y52_, y53_, y54_⟩ := HT.out.b5.cells; obtain ⟨y60_, y61_, y62_, y63_, y64_⟩ := HT.out.b6.cells) | (go_at_call 39; (with_reducible refine (light_c k (Cv.out.below (below_step HT.out.below bs_)) h1.out).mono ?_); rintro e wz1 ⟨rfl, hb⟩; clear y50_ y51_ y52_ y53_ y54_ y60_ y61_ y62_ y63_ y64_; replace HT := aS (T2.step (HT.out.step bs_) hb); clear hb; obtain ⟨y50_, y51_, y52_, y53_, y54_⟩ := HT.out.b5.cells; obtain ⟨y60_, y61_, y62_, y63_, y64_⟩ := HT.out.b6.cells) | (go_at_call 50; (with_reducible refine (lightL_c k (Kd.C_below Cl.out.1 (below_step HT.out.below bs_)) Cl.out.2 h3.out).mono ?_); rintro e wz3 ⟨rfl, hb⟩; clear y50_ y51_ y52_ y53_ y54_ y60_ y61_ y62_ y63_ y64_; replace HT := aS (T2.step (HT.out.step bs_) hb); clear hb; obtain ⟨y50_, y51_, y52_, y53_, y54_⟩ := HT.out.b5.cells; obtain ⟨y60_, y61_, y62_, y63_, y64_⟩ := HT.out.b6.cells))
   go_meet
   case rel => exact ⟨rfl, ⟨(HT.out.step bs_)⟩⟩
  | c4 h0 h1 h2 h3 h4 =>
   go_wp2_with (first | (go_at_call 39; (with_reducible refine (light_c k (Ct.out.below (below_step HT.out.below bs_)) h0.out).mono ?_); rintro e wz0 ⟨rfl, hb⟩; clear y50_ y51_ y52_ y53_ y54_ y60_ y61_ y62_ y63_ y64_; replace HT := aS (T2.step (HT.out.step bs_) hb); clear hb; obtain ⟨y50_, y51_, y52_, y53_, y54_⟩ := HT.out.b5.cells; obtain ⟨y60_, y61_, y62_, y63_, y64_⟩ := HT.out.b6.cells) | (go_at_call 39; (with_reducible refine (light_c k (Cv.out.below (below_step HT.out.below bs_)) h1.out).mono ?_); rintro e wz1 ⟨rfl, hb⟩; clear y50_ y51_ y52_ y53_ y54_ y60_ y61_ y62_ y63_ y64_; replace HT := aS (T2.step (HT.out.step bs_) hb); clear hb; obtain ⟨y50_, y51_, y52_, y53_, y54_⟩ := HT.out.b5.cells; obtain ⟨y60_, y61_, y62_, y63_, y64_⟩ := HT.out.b6.cells) | (go_at_call 50; (with_reducible refine (lightL_c k (Kd.C_below Cl.out.1 (below_step HT.out.below bs_)) Cl.out.2 h3.out).mono ?_); rintro e wz3 ⟨rfl, hb⟩; clear y50_ y51_ y52_ y53_ y54_ y60_ y61_ y62_ y63_ y64_; replace HT := aS (T2.step (HT.out.step bs_) hb); clear hb; obtain ⟨y50_, y51_, y52_, y53_, y54_⟩ := HT.out.b5.cells; obtain ⟨y60_, y61_, y62_, y63_, y64_⟩ := HT.out.b6.cells) | (go_at_call 51; (with_reducible refine (termL_c k (Ct.out.below (below_step HT.out.below bs_)) h4.out).mono ?_); rintro e wz4 ⟨rfl, hb⟩; clear y50_ y51_ y52_ y53_ y54_ y60_ y61_ y62_ y63_ y64_; replace HT := aS (T2.step (HT.out.step bs_) hb); clear hb; obtain ⟨y50_, y51_, y52_, y53_, y54_⟩ := HT.out.b5.cells; obtain ⟨y60_, y61_, y62_, y63_, y64_⟩ := HT.out.b6.cells))
   go_meet
   case rel => exact ⟨rfl, ⟨(HT.out.step bs_)⟩⟩
  | c5 d h0 h1 h2 h3 h4 h5 =>
   go_wp2_with (first | (go_at_call 39; (with_reducible refine (light_c k (Ct.out.below (below_step HT.out.below bs_)) h0.out).mono ?_); rintro e wz0 ⟨rfl, hb⟩; clear y50_ y51_ y52_ y53_ y54_ y60_ y61_ y62_ y63_ y64_; replace HT := aS (T2.step (HT.out.step bs_) hb); clear hb; obtain ⟨y50_, y51_, y52_, y53_, y54_⟩ := HT.out.b5.cells; obtain ⟨y60_, y61_, y62_, y63_, y64_⟩ := HT.out.b6.cells) | (go_at_call 39; (with_reducible refine (light_c k (Cv.out.below (below_step HT.out.below bs_)) h1.out).mono ?_); rintro e wz1 ⟨rfl, hb⟩; clear y50_ y51_ y52_ y53_ y54_ y60_ y61_ y62_ y63_ y64_; replace HT := aS (T2.step (HT.out.step bs_) hb); clear hb; obtain ⟨y50_, y51_, y52_, y53_, y54_⟩ := HT.out.b5.cells; obtain ⟨y60_, y61_, y62_, y63_, y64_⟩ := HT.out.b6.cells) | (go_at_call 50; (with_reducible refine (lightL_c k (Kd.C_below Cl.out.1 (below_step HT.out.below bs_)) Cl.out.2 h3.out).mono ?_); rintro e wz3 ⟨rfl, hb⟩; clear y50_ y51_ y52_ y53_ y54_ y60_ y61_ y62_ y63_ y64_; replace HT := aS (T2.step (HT.out.step bs_) hb); clear hb; obtain ⟨y50_, y51_, y52_, y53_, y54_⟩ := HT.out.b5.cells; obtain ⟨y60_, y61_, y62_, y63_, y64_⟩ := HT.out.b6.cells) | (go_at_call 51; (with_reducible refine (termL_c k (Ct.out.below (below_step HT.out.below bs_)) h4.out).mono ?_); rintro e wz4 ⟨rfl, hb⟩; clear y50_ y51_ y52_ y53_ y54_ y60_ y61_ y62_ y63_ y64_; replace HT := aS (T2.step (HT.out.step bs_) hb); clear hb; obtain ⟨y50_, y51_, y52_, y53_, y54_⟩ := HT.out.b5.cells; obtain ⟨y60_, y61_, y62_, y63_, y64_⟩ := HT.out.b6.cells) | (go_at_call 51; (with_reducible refine (termL_c k (Cv.out.below (below_step HT.out.below bs_)) h5.out).mono ?_); rintro e wz5 ⟨rfl, hb⟩; clear y50_ y51_ y52_ y53_ y54_ y60_ y61_ y62_ y63_ y64_; replace HT := aS (T2.step (HT.out.step bs_) hb); clear hb; obtain ⟨y50_, y51_, y52_, y53_, y54_⟩ := HT.out.b5.cells; obtain ⟨y60_, y61_, y62_, y63_, y64_⟩ := HT.out.b6.cells))
   go_meet
   case rel => exact ⟨rfl, ⟨(HT.out.step bs_)⟩⟩
 case rest =>
  obtain ⟨rfl, HT⟩ := hcut
  cases b0 with
  | true =>
   go_wp2
   go_ret
   exact ⟨rfl, (by repeat (first | (with_reducible exact HT.out.below) | apply pw_below_drewN | apply below_drew1))⟩
  | false =>
   obtain ⟨a, b, c, HRS⟩ := HR.out rfl
   have RS := aS HRS
   clear HRS HR HG
   go_upto_region 5 with (first | fail)
   refine wp_region_inv [47, 48, 49, 50, 11, 12] (fun D xs wz => ∃ I, F5 w Z t v ls g5 g6 I D xs wz) (by kernel_rfl) (by kernel_rfl) ?init ?steps ?fin
   case init =>
    obtain ⟨I, hI, h0, h1⟩ := HT.out.own
    have hd : Below _ _ _ := below_drew1 (Below.refl wc.heap.size wc)
    exact ⟨I, ⟨below_step HT.out.below hd, hI.grow (Nat.le_refl _), ⟨h0, HT.out.b5.blk⟩, ⟨h1, HT.out.b6.blk⟩, fun h => absurd h Bool.false_ne_true, fun h => absurd h Bool.false_ne_true, fun h => absurd h Bool.false_ne_true, fun h => absurd h Bool.false_ne_true, fun h _ => absurd h Bool.false_ne_true, fun h _ => absurd h Bool.false_ne_true, fun h => absurd h Bool.false_ne_true, fun h => absurd h Bool.false_ne_true⟩⟩
   case steps =>
    refine StepsL.cons (i' := 1) (by rfl) ?_ ?_
    ·intro D xs wz hI hD hp A hA K hK
     obtain ⟨I, hF⟩ := hI
     have F := aS hF
     clear hF
     simp only [puts, List.foldl_cons, List.foldl_nil, Act.put, List.setIfInBounds_toArray, List.set_cons_zero, List.set_cons_succ] at hA
     subst hA
     obtain ⟨y0_, y1_, y2_, y3_, y4_⟩ := F.out.b0.cells
     go_simp
     simp only [Act.put, List.setIfInBounds_toArray, List.set_cons_zero, List.set_cons_succ] at hK
     exact hK.out _ _ ⟨I, ⟨F.out.below, F.out.own, F.out.b0, F.out.b1, fun _ => rfl, F.out.c1, F.out.x2, F.out.c3, F.out.a4, F.out.a5, F.out.s6, F.out.s7⟩⟩
    refine StepsL.cons (i' := 2) (by rfl) ?_ ?_
    ·intro D xs wz hI hD hp A hA K hK
     obtain ⟨I, hF⟩ := hI
     have F := aS hF
     clear hF
     simp only [puts, List.foldl_cons, List.foldl_nil, Act.put, List.setIfInBounds_toArray, List.set_cons_zero, List.set_cons_succ] at hA
     subst hA
     simp only [Act.put, List.setIfInBounds_toArray, List.set_cons_zero, List.set_cons_succ] at hK
     have e0_ := F.out.x0 (hp 0 (by kernel_rfl))
     simp only [e0_] at hK ⊢
     go_simp
     go_wp2_with (first | (go_at_call 52; go_must (with_reducible refine (copyR k RS.out.wt.choose_spec (Ct.out.below (below_step F.out.below bs_)) RS.out.hc).mono ?_); rintro e wy ⟨vr, rfl, hres, hb⟩))
     have hS := F.out.own.same hb
     exact hK.out _ _ ⟨updI I 4 (wz.heap.size, wy.heap.size), ⟨below_step F.out.below hb, F.out.own.new F.out.below.size 4 (Nat.le_refl _) (Nat.le_refl _) hb.size hb.size, F.out.b0.move (hS 0), F.out.b1.move (hS 1), F.out.x0, fun _ => hres, F.out.x2, fun d0 => (F.out.c3 d0).move (hS 5), fun d0 d1 => (F.out.a4 d0 d1).move (hS 2), fun d0 d1 => (F.out.a5 d0 d1).move (hS 3), fun h => (by have e := (F.out.s6 h).1.2; rw [hD] at e; cases e), fun h => ⟨(F.out.s7 h).1, (F.out.s7 h).2.move (hS 3)⟩⟩⟩
    refine StepsL.cons (i' := 3) (by rfl) ?_ ?_
    ·intro D xs wz hI hD hp A hA K hK
     obtain ⟨I, hF⟩ := hI
     have F := aS hF
     clear hF
     simp only [puts, List.foldl_cons, List.foldl_nil, Act.put, List.setIfInBounds_toArray, List.set_cons_zero, List.set_cons_succ] at hA
     subst hA
     obtain ⟨y0_, y1_, y2_, y3_, y4_⟩ := F.out.b1.cells
     go_simp
     simp only [Act.put, List.setIfInBounds_toArray, List.set_cons_zero, List.set_cons_succ] at hK
     exact hK.out _ _ ⟨I, ⟨F.out.below, F.out.own, F.out.b0, F.out.b1, F.out.x0, F.out.c1, fun _ => rfl, F.out.c3, F.out.a4, F.out.a5, F.out.s6, F.out.s7⟩⟩
    refine StepsL.cons (i' := 4) (by rfl) ?_ ?_
    ·intro D xs wz hI hD hp A hA K hK
     obtain ⟨I, hF⟩ := hI
     have F := aS hF
     clear hF
     simp only [puts, List.foldl_cons, List.foldl_nil, Act.put, List.setIfInBounds_toArray, List.set_cons_zero, List.set_cons_succ] at hA
     subst hA
     simp only [Act.put, List.setIfInBounds_toArray, List.set_cons_zero, List.set_cons_succ] at hK
     have e0_ := F.out.x2 (hp 2 (by kernel_rfl))
     simp only [e0_] at hK ⊢
     go_simp
     go_wp2_with (first | (go_at_call 52; go_must (with_reducible refine (copyR k RS.out.wv.choose_spec (Cv.out.below (below_step F.out.below bs_)) RS.out.hp).mono ?_); rintro e wy ⟨vr, rfl, hres, hb⟩))
     have hS := F.out.own.same hb
     exact hK.out _ _ ⟨updI I 5 (wz.heap.size, wy.heap.size), ⟨below_step F.out.below hb, F.out.own.new F.out.below.size 5 (Nat.le_refl _) (Nat.le_refl _) hb.size hb.size, F.out.b0.move (hS 0), F.out.b1.move (hS 1), F.out.x0, fun d0 => (F.out.c1 d0).move (hS 4), F.out.x2, fun _ => hres, fun d0 d1 => (F.out.a4 d0 d1).move (hS 2), fun d0 d1 => (F.out.a5 d0 d1).move (hS 3), fun h => ⟨(F.out.s6 h).1, (F.out.s6 h).2.move (hS 2)⟩, fun h => (by have e := (F.out.s7 h).1.2; rw [hD] at e; cases e)⟩⟩
    refine StepsL.cons (i' := 5) (by rfl) ?_ ?_
    ·intro D xs wz hI hD hp A hA K hK
     obtain ⟨I, hF⟩ := hI
     have F := aS hF
     clear hF
     simp only [puts, List.foldl_cons, List.foldl_nil, Act.put, List.setIfInBounds_toArray, List.set_cons_zero, List.set_cons_succ] at hA
     subst hA
     refine box_step (by rfl) (N := 11) rfl (cs := #[.int .i64 0, .int .i64 0, .string (⟨#[]⟩ : ByteArray), .slice none 0 0, .slice none 0 0]) (t := 27) ?hr ?_
     case hr => first | (go_simp; done) | (go_simp; rfl)
     intro g hg wy hbox hb
     have hS := F.out.own.same hb
     exact hK.out _ _ ⟨updI I 2 (g, g + 1), ⟨below_step F.out.below hb, F.out.own.new F.out.below.size 2 (Nat.le_of_eq hg.symm) (blk_lt hbox) hb.size (Nat.le_succ _), F.out.b0.move (hS 0), F.out.b1.move (hS 1), F.out.x0, fun d0 => (F.out.c1 d0).move (hS 4), F.out.x2, fun d0 => (F.out.c3 d0).move (hS 5), fun _ _ => ⟨g, rfl, rfl, hbox⟩, fun d0 d1 => (F.out.a5 d0 d1).move (hS 3), fun h => (by have e := (F.out.s6 h).1.1; rw [hD] at e; cases e), fun h => ⟨(F.out.s7 h).1, (F.out.s7 h).2.move (hS 3)⟩⟩⟩
    refine StepsL.cons (i' := 6) (by rfl) ?_ ?_
    ·intro D xs wz hI hD hp A hA K hK
     obtain ⟨I, hF⟩ := hI
     have F := aS hF
     clear hF
     simp only [puts, List.foldl_cons, List.foldl_nil, Act.put, List.setIfInBounds_toArray, List.set_cons_zero, List.set_cons_succ] at hA
     subst hA
     refine box_step (by rfl) (N := 12) rfl (cs := #[.int .i64 0, .int .i64 0, .string (⟨#[]⟩ : ByteArray), .slice none 0 0, .slice none 0 0]) (t := 27) ?hr ?_
     case hr => first | (go_simp; done) | (go_simp; rfl)
     intro g hg wy hbox hb
     have hS := F.out.own.same hb
     exact hK.out _ _ ⟨updI I 3 (g, g + 1), ⟨below_step F.out.below hb, F.out.own.new F.out.below.size 3 (Nat.le_of_eq hg.symm) (blk_lt hbox) hb.size (Nat.le_succ _), F.out.b0.move (hS 0), F.out.b1.move (hS 1), F.out.x0, fun d0 => (F.out.c1 d0).move (hS 4), F.out.x2, fun d0 => (F.out.c3 d0).move (hS 5), fun d0 d1 => (F.out.a4 d0 d1).move (hS 2), fun _ _ => ⟨g, rfl, rfl, hbox⟩, fun h => ⟨(F.out.s6 h).1, (F.out.s6 h).2.move (hS 2)⟩, fun h => (by have e := (F.out.s7 h).1.1; rw [hD] at e; cases e)⟩⟩
    refine StepsL.cons (i' := 7) (by rfl) ?_ ?_
    ·intro D xs wz hI hD hp A hA K hK
     obtain ⟨I, hF⟩ := hI
     have F := aS hF
     clear hF
     simp only [puts, List.foldl_cons, List.foldl_nil, Act.put, List.setIfInBounds_toArray, List.set_cons_zero, List.set_cons_succ] at hA
     subst hA
     obtain ⟨A3, c3, A4, c4, ev_, _⟩ := F.out.c1 (hp 1 (by kernel_rfl))
     obtain ⟨g, eg_, ha_⟩ := F.out.a4 (hp 4 (by kernel_rfl)) hD
     have hf := fill5' (x := t) (A3 := A3) (c3 := c3) (A4 := A4) (c4 := c4) ha_.blk
     have hc_ : ∀ k, k < wz.heap.size → ¬ ((I 2).1 ≤ k ∧ k < (I 2).2) → (wz.setCells g 0 [.int .i64 t.f0, .int .i64 t.f1, .string t.f2, .slice A3 t.f3.length c3, .slice A4 t.f4.length c4]).heap[k]? = wz.heap[k]? := fun k hk hn => hf.2.block k hk (fun e => by injection e with e; rw [ha_.sp] at hn; subst e; exact hn ⟨Nat.le_refl _, Nat.lt_succ_self _⟩)
     have hS := F.out.own.apart 2 hc_
     refine store_own (by rfl) rfl 27 _ _ rfl (g := g) (off := 0) (cur := #[.int .i64 0, .int .i64 0, .string (⟨#[]⟩ : ByteArray), .slice none 0 0, .slice none 0 0]) (e := 27) (u := .agg #[.int .i64 t.f0, .int .i64 t.f1, .string t.f2, .slice A3 t.f3.length c3, .slice A4 t.f4.length c4]) [.int .i64 t.f0, .int .i64 t.f1, .string t.f2, .slice A3 t.f3.length c3, .slice A4 t.f4.length c4] eg_ ev_ ha_.blk rfl (by kernel_rfl) (by simp) (by intro q_ hq_; simp at hq_; rcases hq_ with rfl | rfl | rfl | rfl | rfl <;> rfl) ?_
     exact hK.out undef _ ⟨I, ⟨F.out.below.trans (F.out.own.base (Nat.le_refl _) 2 hf.2.os hf.2.tape hf.2.output hf.2.size F.out.below.size hc_), F.out.own.grow hf.2.size, F.out.b0.move (hS 0 (by decide)), F.out.b1.move (hS 1 (by decide)), F.out.x0, fun d0 => (F.out.c1 d0).move (hS 4 (by decide)), F.out.x2, fun d0 => (F.out.c3 d0).move (hS 5 (by decide)), fun _ h => (by cases h), fun d0 d1 => (F.out.a5 d0 d1).move (hS 3 (by decide)), fun _ => ⟨⟨hp 4 (by kernel_rfl), hp 1 (by kernel_rfl)⟩, _, ev_, g, eg_, ha_.sp, hf.1.blk⟩, fun h => ⟨(F.out.s7 h).1, (F.out.s7 h).2.move (hS 3 (by decide))⟩⟩⟩
    refine StepsL.cons (i' := 8) (by rfl) ?_ ?_
    ·intro D xs wz hI hD hp A hA K hK
     obtain ⟨I, hF⟩ := hI
     have F := aS hF
     clear hF
     simp only [puts, List.foldl_cons, List.foldl_nil, Act.put, List.setIfInBounds_toArray, List.set_cons_zero, List.set_cons_succ] at hA
     subst hA
     obtain ⟨A3, c3, A4, c4, ev_, _⟩ := F.out.c3 (hp 3 (by kernel_rfl))
     obtain ⟨g, eg_, ha_⟩ := F.out.a5 (hp 5 (by kernel_rfl)) hD
     have hf := fill5' (x := v) (A3 := A3) (c3 := c3) (A4 := A4) (c4 := c4) ha_.blk
     have hc_ : ∀ k, k < wz.heap.size → ¬ ((I 3).1 ≤ k ∧ k < (I 3).2) → (wz.setCells g 0 [.int .i64 v.f0, .int .i64 v.f1, .string v.f2, .slice A3 v.f3.length c3, .slice A4 v.f4.length c4]).heap[k]? = wz.heap[k]? := fun k hk hn => hf.2.block k hk (fun e => by injection e with e; rw [ha_.sp] at hn; subst e; exact hn ⟨Nat.le_refl _, Nat.lt_succ_self _⟩)
     have hS := F.out.own.apart 3 hc_
     refine store_own (by rfl) rfl 27 _ _ rfl (g := g) (off := 0) (cur := #[.int .i64 0, .int .i64 0, .string (⟨#[]⟩ : ByteArray), .slice none 0 0, .slice none 0 0]) (e := 27) (u := .agg #[.int .i64 v.f0, .int .i64 v.f1, .string v.f2, .slice A3 v.f3.length c3, .slice A4 v.f4.length c4]) [.int .i64 v.f0, .int .i64 v.f1, .string v.f2, .slice A3 v.f3.length c3, .slice A4 v.f4.length c4] eg_ ev_ ha_.blk rfl (by kernel_rfl) (by simp) (by intro q_ hq_; simp at hq_; rcases hq_ with rfl | rfl | rfl | rfl | rfl <;> rfl) ?_
     exact hK.out undef _ ⟨I, ⟨F.out.below.trans (F.out.own.base (Nat.le_refl _) 3 hf.2.os hf.2.tape hf.2.output hf.2.size F.out.below.size hc_), F.out.own.grow hf.2.size, F.out.b0.move (hS 0 (by decide)), F.out.b1.move (hS 1 (by decide)), F.out.x0, fun d0 => (F.out.c1 d0).move (hS 4 (by decide)), F.out.x2, fun d0 => (F.out.c3 d0).move (hS 5 (by decide)), fun d0 d1 => (F.out.a4 d0 d1).move (hS 2 (by decide)), fun _ h => (by cases h), fun h => ⟨(F.out.s6 h).1, (F.out.s6 h).2.move (hS 2 (by decide))⟩, fun _ => ⟨⟨hp 5 (by kernel_rfl), hp 3 (by kernel_rfl)⟩, _, ev_, g, eg_, ha_.sp, hf.1.blk⟩⟩⟩
    exact StepsL.nil
   case fin =>
    intro D xs wz hI hD
    obtain ⟨I, F⟩ := hI
    obtain ⟨_, cs6_, u6_, ga, p6_, at6_⟩ := F.s6 (hD 6 (by decide))
    obtain ⟨_, cs7_, u7_, gb, p7_, at7_⟩ := F.s7 (hD 7 (by decide))
    obtain ⟨T3, tc3, T4, tc4, q1_, k4_⟩ := F.c1 (hD 1 (by decide))
    obtain ⟨V3, vc3, V4, vc4, q3_, k5_⟩ := F.c3 (hD 3 (by decide))
    rw [q1_] at u6_
    rw [q3_] at u7_
    injection u6_ with u6_
    injection u7_ with u7_
    subst u6_
    subst u7_
    simp only [puts, List.foldl_cons, List.foldl_nil, Act.put, List.setIfInBounds_toArray, List.set_cons_zero, List.set_cons_succ, p6_, p7_]
    have HF : Aside0 (Own w.heap.size wz I ∧ Below w.heap.size w wz ∧ (At wz (I 0) g5 #[.int .i64 t.f0, .int .i64 t.f1, .string t.f2, .slice Z.t3 t.f3.length Z.tc3, .slice Z.t4 t.f4.length Z.tc4] ∧ At wz (I 1) g6 #[.int .i64 v.f0, .int .i64 v.f1, .string v.f2, .slice Z.v3 v.f3.length Z.vc3, .slice Z.v4 v.f4.length Z.vc4]) ∧ At wz (I 2) ga #[.int .i64 t.f0, .int .i64 t.f1, .string t.f2, .slice T3 t.f3.length tc3, .slice T4 t.f4.length tc4] ∧ At wz (I 3) gb #[.int .i64 v.f0, .int .i64 v.f1, .string v.f2, .slice V3 v.f3.length vc3, .slice V4 v.f4.length vc4] ∧ Held wz (I 4) (Whl (I 4) T3 tc3 T4 tc4 t) ∧ Held wz (I 5) (Whl (I 5) V3 vc3 V4 vc4 v)) := ⟨F.own, F.below, ⟨F.b0, F.b1⟩, at6_, at7_, k4_, k5_⟩
    clear F hD p6_ p7_ q1_ q3_ k4_ k5_ at6_ at7_ HT
    go_upto_region 6 with fail
    refine wp_region_inv [51, 52, 53, 54, 55, 56, 57, 58, 59, 60, 13, 14, 15] (fun D xs wz => ∃ I, F6 w Z t v ls g5 g6 ga gb (⟨T3, tc3, T4, tc4, V3, vc3, V4, vc4, none, 0⟩ : LZ12) by_ fr a b c I D xs wz) (by kernel_rfl) (by kernel_rfl) ?init ?steps ?fin
    case init =>
     obtain ⟨hO, hB, ⟨h0, h1⟩, h2, h3, h4, h5⟩ := HF.out
     have hd : Below _ _ _ := below_drew1 (Below.refl wz.heap.size wz)
     exact ⟨I, ⟨below_step hB hd, hO.grow (Nat.le_refl _), h0.move (hO.same hd 0), h1.move (hO.same hd 1), h2.move (hO.same hd 2), h3.move (hO.same hd 3), h4.move (hO.same hd 4), h5.move (hO.same hd 5), fun h => absurd h Bool.false_ne_true, fun h => absurd h Bool.false_ne_true, fun h => absurd h Bool.false_ne_true, fun h => absurd h Bool.false_ne_true, fun h => absurd h Bool.false_ne_true, fun h => absurd h Bool.false_ne_true, fun h => absurd h Bool.false_ne_true, fun h => absurd h Bool.false_ne_true, fun h => absurd h Bool.false_ne_true, fun h => absurd h Bool.false_ne_true, fun h _ => absurd h Bool.false_ne_true, fun h _ => absurd h Bool.false_ne_true, fun h _ => absurd h Bool.false_ne_true, fun h => absurd h Bool.false_ne_true, fun h => absurd h Bool.false_ne_true, fun h => absurd h Bool.false_ne_true⟩⟩
    case steps =>
     refine StepsL.cons (i' := 1) (by rfl) ?_ ?_
     ·intro D xs wz hI hD hp A hA K hK
      obtain ⟨I, hF⟩ := hI
      have F := aS hF
      clear hF
      simp only [puts, List.foldl_cons, List.foldl_nil, Act.put, List.setIfInBounds_toArray, List.set_cons_zero, List.set_cons_succ] at hA
      subst hA
      obtain ⟨y0_, y1_, y2_, y3_, y4_⟩ := F.out.b0.cells
      go_simp
      simp only [Act.put, List.setIfInBounds_toArray, List.set_cons_zero, List.set_cons_succ] at hK
      exact hK.out _ _ ⟨I, ⟨F.out.below, F.out.own, F.out.b0, F.out.b1, F.out.b2, F.out.b3, F.out.k4, F.out.k5, fun _ => rfl, F.out.x1, F.out.x2, F.out.c3, F.out.x4, F.out.x5, F.out.c6, F.out.x7, F.out.x8, F.out.c9, F.out.a10, F.out.a11, F.out.a12, F.out.s13, F.out.s14, F.out.s15⟩⟩
     refine StepsL.cons (i' := 2) (by rfl) ?_ ?_
     ·intro D xs wz hI hD hp A hA K hK
      obtain ⟨I, hF⟩ := hI
      have F := aS hF
      clear hF
      simp only [puts, List.foldl_cons, List.foldl_nil, Act.put, List.setIfInBounds_toArray, List.set_cons_zero, List.set_cons_succ] at hA
      subst hA
      go_simp
      simp only [Act.put, List.setIfInBounds_toArray, List.set_cons_zero, List.set_cons_succ] at hK
      exact hK.out _ _ ⟨I, ⟨F.out.below, F.out.own, F.out.b0, F.out.b1, F.out.b2, F.out.b3, F.out.k4, F.out.k5, F.out.x0, fun _ => rfl, F.out.x2, F.out.c3, F.out.x4, F.out.x5, F.out.c6, F.out.x7, F.out.x8, F.out.c9, F.out.a10, F.out.a11, F.out.a12, F.out.s13, F.out.s14, F.out.s15⟩⟩
     refine StepsL.cons (i' := 3) (by rfl) ?_ ?_
     ·intro D xs wz hI hD hp A hA K hK
      obtain ⟨I, hF⟩ := hI
      have F := aS hF
      clear hF
      simp only [puts, List.foldl_cons, List.foldl_nil, Act.put, List.setIfInBounds_toArray, List.set_cons_zero, List.set_cons_succ] at hA
      subst hA
      go_simp
      simp only [Act.put, List.setIfInBounds_toArray, List.set_cons_zero, List.set_cons_succ] at hK
      exact hK.out _ _ ⟨I, ⟨F.out.below, F.out.own, F.out.b0, F.out.b1, F.out.b2, F.out.b3, F.out.k4, F.out.k5, F.out.x0, F.out.x1, fun _ => rfl, F.out.c3, F.out.x4, F.out.x5, F.out.c6, F.out.x7, F.out.x8, F.out.c9, F.out.a10, F.out.a11, F.out.a12, F.out.s13, F.out.s14, F.out.s15⟩⟩
     refine StepsL.cons (i' := 4) (by rfl) ?_ ?_
     ·intro D xs wz hI hD hp A hA K hK
      obtain ⟨I, hF⟩ := hI
      have F := aS hF
      clear hF
      simp only [puts, List.foldl_cons, List.foldl_nil, Act.put, List.setIfInBounds_toArray, List.set_cons_zero, List.set_cons_succ] at hA
      subst hA
      simp only [Act.put, List.setIfInBounds_toArray, List.set_cons_zero, List.set_cons_succ] at hK
      have e0_ := F.out.x0 (hp 0 (by kernel_rfl))
      simp only [e0_] at hK ⊢
      have e1_ := F.out.x1 (hp 1 (by kernel_rfl))
      simp only [e1_] at hK ⊢
      have e2_ := F.out.x2 (hp 2 (by kernel_rfl))
      simp only [e2_] at hK ⊢
      go_simp
      go_wp2_with (first | (go_at_call 41; go_must (with_reducible refine (liftR k RS.out.wa.choose_spec (Ct.out.below (below_step F.out.below bs_)) RS.out.ha).mono ?_); rintro e wy ⟨vr, rfl, hres, hb⟩))
      have hS := F.out.own.same hb
      exact hK.out _ _ ⟨updI I 6 (wz.heap.size, wy.heap.size), ⟨below_step F.out.below hb, F.out.own.new F.out.below.size 6 (Nat.le_refl _) (Nat.le_refl _) hb.size hb.size, F.out.b0.move (hS 0), F.out.b1.move (hS 1), F.out.b2.move (hS 2), F.out.b3.move (hS 3), F.out.k4.move (hS 4), F.out.k5.move (hS 5), F.out.x0, F.out.x1, F.out.x2, fun _ => hres, F.out.x4, F.out.x5, fun d0 => (F.out.c6 d0).move (hS 7), F.out.x7, F.out.x8, fun d0 => (F.out.c9 d0).move (hS 8), fun d0 d1 => (F.out.a10 d0 d1).move (hS 9), fun d0 d1 => (F.out.a11 d0 d1).move (hS 10), fun d0 d1 => (F.out.a12 d0 d1).move (hS 11), fun h => (by have e := (F.out.s13 h).1.2; rw [hD] at e; cases e), fun h => ⟨(F.out.s14 h).1, (F.out.s14 h).2.move (hS 10)⟩, fun h => ⟨(F.out.s15 h).1, (F.out.s15 h).2.move (hS 11)⟩⟩⟩
     refine StepsL.cons (i' := 5) (by rfl) ?_ ?_
     ·intro D xs wz hI hD hp A hA K hK
      obtain ⟨I, hF⟩ := hI
      have F := aS hF
      clear hF
      simp only [puts, List.foldl_cons, List.foldl_nil, Act.put, List.setIfInBounds_toArray, List.set_cons_zero, List.set_cons_succ] at hA
      subst hA
      obtain ⟨y0_, y1_, y2_, y3_, y4_⟩ := F.out.b0.cells
      go_simp
      simp only [Act.put, List.setIfInBounds_toArray, List.set_cons_zero, List.set_cons_succ] at hK
      exact hK.out _ _ ⟨I, ⟨F.out.below, F.out.own, F.out.b0, F.out.b1, F.out.b2, F.out.b3, F.out.k4, F.out.k5, F.out.x0, F.out.x1, F.out.x2, F.out.c3, fun _ => rfl, F.out.x5, F.out.c6, F.out.x7, F.out.x8, F.out.c9, F.out.a10, F.out.a11, F.out.a12, F.out.s13, F.out.s14, F.out.s15⟩⟩
     refine StepsL.cons (i' := 6) (by rfl) ?_ ?_
     ·intro D xs wz hI hD hp A hA K hK
      obtain ⟨I, hF⟩ := hI
      have F := aS hF
      clear hF
      simp only [puts, List.foldl_cons, List.foldl_nil, Act.put, List.setIfInBounds_toArray, List.set_cons_zero, List.set_cons_succ] at hA
      subst hA
      obtain ⟨y0_, y1_, y2_, y3_, y4_⟩ := F.out.b1.cells
      go_simp
      simp only [Act.put, List.setIfInBounds_toArray, List.set_cons_zero, List.set_cons_succ] at hK
      exact hK.out _ _ ⟨I, ⟨F.out.below, F.out.own, F.out.b0, F.out.b1, F.out.b2, F.out.b3, F.out.k4, F.out.k5, F.out.x0, F.out.x1, F.out.x2, F.out.c3, F.out.x4, fun _ => rfl, F.out.c6, F.out.x7, F.out.x8, F.out.c9, F.out.a10, F.out.a11, F.out.a12, F.out.s13, F.out.s14, F.out.s15⟩⟩
     refine StepsL.cons (i' := 7) (by rfl) ?_ ?_
     ·intro D xs wz hI hD hp A hA K hK
      obtain ⟨I, hF⟩ := hI
      have F := aS hF
      clear hF
      simp only [puts, List.foldl_cons, List.foldl_nil, Act.put, List.setIfInBounds_toArray, List.set_cons_zero, List.set_cons_succ] at hA
      subst hA
      simp only [Act.put, List.setIfInBounds_toArray, List.set_cons_zero, List.set_cons_succ] at hK
      have e0_ := F.out.x4 (hp 4 (by kernel_rfl))
      simp only [e0_] at hK ⊢
      have e1_ := F.out.x5 (hp 5 (by kernel_rfl))
      simp only [e1_] at hK ⊢
      go_simp
      go_wp2_with (first | (go_at_call 42; go_must (with_reducible refine (putR k RS.out.wb.choose_spec (Ct.out.below (below_step F.out.below bs_)) (Cv.out.below (below_step F.out.below bs_)) RS.out.hb).mono ?_); rintro e wy ⟨vr, rfl, hres, hb⟩))
      have hS := F.out.own.same hb
      exact hK.out _ _ ⟨updI I 7 (wz.heap.size, wy.heap.size), ⟨below_step F.out.below hb, F.out.own.new F.out.below.size 7 (Nat.le_refl _) (Nat.le_refl _) hb.size hb.size, F.out.b0.move (hS 0), F.out.b1.move (hS 1), F.out.b2.move (hS 2), F.out.b3.move (hS 3), F.out.k4.move (hS 4), F.out.k5.move (hS 5), F.out.x0, F.out.x1, F.out.x2, fun d0 => (F.out.c3 d0).move (hS 6), F.out.x4, F.out.x5, fun _ => hres, F.out.x7, F.out.x8, fun d0 => (F.out.c9 d0).move (hS 8), fun d0 d1 => (F.out.a10 d0 d1).move (hS 9), fun d0 d1 => (F.out.a11 d0 d1).move (hS 10), fun d0 d1 => (F.out.a12 d0 d1).move (hS 11), fun h => ⟨(F.out.s13 h).1, (F.out.s13 h).2.move (hS 9)⟩, fun h => (by have e := (F.out.s14 h).1.2; rw [hD] at e; cases e), fun h => ⟨(F.out.s15 h).1, (F.out.s15 h).2.move (hS 11)⟩⟩⟩
     refine StepsL.cons (i' := 8) (by rfl) ?_ ?_
     ·intro D xs wz hI hD hp A hA K hK
      obtain ⟨I, hF⟩ := hI
      have F := aS hF
      clear hF
      simp only [puts, List.foldl_cons, List.foldl_nil, Act.put, List.setIfInBounds_toArray, List.set_cons_zero, List.set_cons_succ] at hA
      subst hA
      obtain ⟨y0_, y1_, y2_, y3_, y4_⟩ := F.out.b0.cells
      go_simp
      simp only [Act.put, List.setIfInBounds_toArray, List.set_cons_zero, List.set_cons_succ] at hK
      exact hK.out _ _ ⟨I, ⟨F.out.below, F.out.own, F.out.b0, F.out.b1, F.out.b2, F.out.b3, F.out.k4, F.out.k5, F.out.x0, F.out.x1, F.out.x2, F.out.c3, F.out.x4, F.out.x5, F.out.c6, fun _ => rfl, F.out.x8, F.out.c9, F.out.a10, F.out.a11, F.out.a12, F.out.s13, F.out.s14, F.out.s15⟩⟩
     refine StepsL.cons (i' := 9) (by rfl) ?_ ?_
     ·intro D xs wz hI hD hp A hA K hK
      obtain ⟨I, hF⟩ := hI
      have F := aS hF
      clear hF
      simp only [puts, List.foldl_cons, List.foldl_nil, Act.put, List.setIfInBounds_toArray, List.set_cons_zero, List.set_cons_succ] at hA
      subst hA
      go_simp
      simp only [Act.put, List.setIfInBounds_toArray, List.set_cons_zero, List.set_cons_succ] at hK
      exact hK.out _ _ ⟨I, ⟨F.out.below, F.out.own, F.out.b0, F.out.b1, F.out.b2, F.out.b3, F.out.k4, F.out.k5, F.out.x0, F.out.x1, F.out.x2, F.out.c3, F.out.x4, F.out.x5, F.out.c6, F.out.x7, fun _ => rfl, F.out.c9, F.out.a10, F.out.a11, F.out.a12, F.out.s13, F.out.s14, F.out.s15⟩⟩
     refine StepsL.cons (i' := 10) (by rfl) ?_ ?_
     ·intro D xs wz hI hD hp A hA K hK
      obtain ⟨I, hF⟩ := hI
      have F := aS hF
      clear hF
      simp only [puts, List.foldl_cons, List.foldl_nil, Act.put, List.setIfInBounds_toArray, List.set_cons_zero, List.set_cons_succ] at hA
      subst hA
      simp only [Act.put, List.setIfInBounds_toArray, List.set_cons_zero, List.set_cons_succ] at hK
      have e0_ := F.out.x7 (hp 7 (by kernel_rfl))
      simp only [e0_] at hK ⊢
      have e1_ := F.out.x8 (hp 8 (by kernel_rfl))
      simp only [e1_] at hK ⊢
      go_simp
      go_wp2_with (first | (go_at_call 53; go_must (with_reducible refine (levelsR k RS.out.wc.choose_spec (Ct.out.below (below_step F.out.below bs_)) (Kd.C_below Cl.out.1 (below_step F.out.below bs_)) Cl.out.2 RS.out.hl).mono ?_); rintro e wy ⟨vr, rfl, hres, hb⟩))
      have hS := F.out.own.same hb
      exact hK.out _ _ ⟨updI I 8 (wz.heap.size, wy.heap.size), ⟨below_step F.out.below hb, F.out.own.new F.out.below.size 8 (Nat.le_refl _) (Nat.le_refl _) hb.size hb.size, F.out.b0.move (hS 0), F.out.b1.move (hS 1), F.out.b2.move (hS 2), F.out.b3.move (hS 3), F.out.k4.move (hS 4), F.out.k5.move (hS 5), F.out.x0, F.out.x1, F.out.x2, fun d0 => (F.out.c3 d0).move (hS 6), F.out.x4, F.out.x5, fun d0 => (F.out.c6 d0).move (hS 7), F.out.x7, F.out.x8, fun _ => hres, fun d0 d1 => (F.out.a10 d0 d1).move (hS 9), fun d0 d1 => (F.out.a11 d0 d1).move (hS 10), fun d0 d1 => (F.out.a12 d0 d1).move (hS 11), fun h => ⟨(F.out.s13 h).1, (F.out.s13 h).2.move (hS 9)⟩, fun h => ⟨(F.out.s14 h).1, (F.out.s14 h).2.move (hS 10)⟩, fun h => (by have e := (F.out.s15 h).1.2; rw [hD] at e; cases e)⟩⟩
     refine StepsL.cons (i' := 11) (by rfl) ?_ ?_
     ·intro D xs wz hI hD hp A hA K hK
      obtain ⟨I, hF⟩ := hI
      have F := aS hF
      clear hF
      simp only [puts, List.foldl_cons, List.foldl_nil, Act.put, List.setIfInBounds_toArray, List.set_cons_zero, List.set_cons_succ] at hA
      subst hA
      refine box_step (by rfl) (N := 13) rfl (cs := #[.int .i64 0, .int .i64 0, .string (⟨#[]⟩ : ByteArray), .slice none 0 0, .slice none 0 0]) (t := 27) ?hr ?_
      case hr => first | (go_simp; done) | (go_simp; rfl)
      intro g hg wy hbox hb
      have hS := F.out.own.same hb
      exact hK.out _ _ ⟨updI I 9 (g, g + 1), ⟨below_step F.out.below hb, F.out.own.new F.out.below.size 9 (Nat.le_of_eq hg.symm) (blk_lt hbox) hb.size (Nat.le_succ _), F.out.b0.move (hS 0), F.out.b1.move (hS 1), F.out.b2.move (hS 2), F.out.b3.move (hS 3), F.out.k4.move (hS 4), F.out.k5.move (hS 5), F.out.x0, F.out.x1, F.out.x2, fun d0 => (F.out.c3 d0).move (hS 6), F.out.x4, F.out.x5, fun d0 => (F.out.c6 d0).move (hS 7), F.out.x7, F.out.x8, fun d0 => (F.out.c9 d0).move (hS 8), fun _ _ => ⟨g, rfl, rfl, hbox⟩, fun d0 d1 => (F.out.a11 d0 d1).move (hS 10), fun d0 d1 => (F.out.a12 d0 d1).move (hS 11), fun h => (by have e := (F.out.s13 h).1.1; rw [hD] at e; cases e), fun h => ⟨(F.out.s14 h).1, (F.out.s14 h).2.move (hS 10)⟩, fun h => ⟨(F.out.s15 h).1, (F.out.s15 h).2.move (hS 11)⟩⟩⟩
     refine StepsL.cons (i' := 12) (by rfl) ?_ ?_
     ·intro D xs wz hI hD hp A hA K hK
      obtain ⟨I, hF⟩ := hI
      have F := aS hF
      clear hF
      simp only [puts, List.foldl_cons, List.foldl_nil, Act.put, List.setIfInBounds_toArray, List.set_cons_zero, List.set_cons_succ] at hA
      subst hA
      refine box_step (by rfl) (N := 14) rfl (cs := #[.int .i64 0, .int .i64 0, .string (⟨#[]⟩ : ByteArray), .slice none 0 0, .slice none 0 0]) (t := 27) ?hr ?_
      case hr => first | (go_simp; done) | (go_simp; rfl)
      intro g hg wy hbox hb
      have hS := F.out.own.same hb
      exact hK.out _ _ ⟨updI I 10 (g, g + 1), ⟨below_step F.out.below hb, F.out.own.new F.out.below.size 10 (Nat.le_of_eq hg.symm) (blk_lt hbox) hb.size (Nat.le_succ _), F.out.b0.move (hS 0), F.out.b1.move (hS 1), F.out.b2.move (hS 2), F.out.b3.move (hS 3), F.out.k4.move (hS 4), F.out.k5.move (hS 5), F.out.x0, F.out.x1, F.out.x2, fun d0 => (F.out.c3 d0).move (hS 6), F.out.x4, F.out.x5, fun d0 => (F.out.c6 d0).move (hS 7), F.out.x7, F.out.x8, fun d0 => (F.out.c9 d0).move (hS 8), fun d0 d1 => (F.out.a10 d0 d1).move (hS 9), fun _ _ => ⟨g, rfl, rfl, hbox⟩, fun d0 d1 => (F.out.a12 d0 d1).move (hS 11), fun h => ⟨(F.out.s13 h).1, (F.out.s13 h).2.move (hS 9)⟩, fun h => (by have e := (F.out.s14 h).1.1; rw [hD] at e; cases e), fun h => ⟨(F.out.s15 h).1, (F.out.s15 h).2.move (hS 11)⟩⟩⟩
     refine StepsL.cons (i' := 13) (by rfl) ?_ ?_
     ·intro D xs wz hI hD hp A hA K hK
      obtain ⟨I, hF⟩ := hI
      have F := aS hF
      clear hF
      simp only [puts, List.foldl_cons, List.foldl_nil, Act.put, List.setIfInBounds_toArray, List.set_cons_zero, List.set_cons_succ] at hA
      subst hA
      refine box_step (by rfl) (N := 15) rfl (cs := #[.int .i64 0, .int .i64 0, .string (⟨#[]⟩ : ByteArray), .slice none 0 0, .slice none 0 0]) (t := 27) ?hr ?_
      case hr => first | (go_simp; done) | (go_simp; rfl)
      intro g hg wy hbox hb
      have hS := F.out.own.same hb
      exact hK.out _ _ ⟨updI I 11 (g, g + 1), ⟨below_step F.out.below hb, F.out.own.new F.out.below.size 11 (Nat.le_of_eq hg.symm) (blk_lt hbox) hb.size (Nat.le_succ _), F.out.b0.move (hS 0), F.out.b1.move (hS 1), F.out.b2.move (hS 2), F.out.b3.move (hS 3), F.out.k4.move (hS 4), F.out.k5.move (hS 5), F.out.x0, F.out.x1, F.out.x2, fun d0 => (F.out.c3 d0).move (hS 6), F.out.x4, F.out.x5, fun d0 => (F.out.c6 d0).move (hS 7), F.out.x7, F.out.x8, fun d0 => (F.out.c9 d0).move (hS 8), fun d0 d1 => (F.out.a10 d0 d1).move (hS 9), fun d0 d1 => (F.out.a11 d0 d1).move (hS 10), fun _ _ => ⟨g, rfl, rfl, hbox⟩, fun h => ⟨(F.out.s13 h).1, (F.out.s13 h).2.move (hS 9)⟩, fun h => ⟨(F.out.s14 h).1, (F.out.s14 h).2.move (hS 10)⟩, fun h => (by have e := (F.out.s15 h).1.1; rw [hD] at e; cases e)⟩⟩
     refine StepsL.cons (i' := 14) (by rfl) ?_ ?_
     ·intro D xs wz hI hD hp A hA K hK
      obtain ⟨I, hF⟩ := hI
      have F := aS hF
      clear hF
      simp only [puts, List.foldl_cons, List.foldl_nil, Act.put, List.setIfInBounds_toArray, List.set_cons_zero, List.set_cons_succ] at hA
      subst hA
      obtain ⟨A3, c3, A4, c4, ev_, _⟩ := F.out.c3 (hp 3 (by kernel_rfl))
      obtain ⟨g, eg_, ha_⟩ := F.out.a10 (hp 10 (by kernel_rfl)) hD
      have hf := fill5' (x := a) (A3 := A3) (c3 := c3) (A4 := A4) (c4 := c4) ha_.blk
      have hc_ : ∀ k, k < wz.heap.size → ¬ ((I 9).1 ≤ k ∧ k < (I 9).2) → (wz.setCells g 0 [.int .i64 a.f0, .int .i64 a.f1, .string a.f2, .slice A3 a.f3.length c3, .slice A4 a.f4.length c4]).heap[k]? = wz.heap[k]? := fun k hk hn => hf.2.block k hk (fun e => by injection e with e; rw [ha_.sp] at hn; subst e; exact hn ⟨Nat.le_refl _, Nat.lt_succ_self _⟩)
      have hS := F.out.own.apart 9 hc_
      refine store_own (by rfl) rfl 27 _ _ rfl (g := g) (off := 0) (cur := #[.int .i64 0, .int .i64 0, .string (⟨#[]⟩ : ByteArray), .slice none 0 0, .slice none 0 0]) (e := 27) (u := .agg #[.int .i64 a.f0, .int .i64 a.f1, .string a.f2, .slice A3 a.f3.length c3, .slice A4 a.f4.length c4]) [.int .i64 a.f0, .int .i64 a.f1, .string a.f2, .slice A3 a.f3.length c3, .slice A4 a.f4.length c4] eg_ ev_ ha_.blk rfl (by kernel_rfl) (by simp) (by intro q_ hq_; simp at hq_; rcases hq_ with rfl | rfl | rfl | rfl | rfl <;> rfl) ?_
      exact hK.out undef _ ⟨I, ⟨F.out.below.trans (F.out.own.base (Nat.le_refl _) 9 hf.2.os hf.2.tape hf.2.output hf.2.size F.out.below.size hc_), F.out.own.grow hf.2.size, F.out.b0.move (hS 0 (by decide)), F.out.b1.move (hS 1 (by decide)), F.out.b2.move (hS 2 (by decide)), F.out.b3.move (hS 3 (by decide)), F.out.k4.move (hS 4 (by decide)), F.out.k5.move (hS 5 (by decide)), F.out.x0, F.out.x1, F.out.x2, fun d0 => (F.out.c3 d0).move (hS 6 (by decide)), F.out.x4, F.out.x5, fun d0 => (F.out.c6 d0).move (hS 7 (by decide)), F.out.x7, F.out.x8, fun d0 => (F.out.c9 d0).move (hS 8 (by decide)), fun _ h => (by cases h), fun d0 d1 => (F.out.a11 d0 d1).move (hS 10 (by decide)), fun d0 d1 => (F.out.a12 d0 d1).move (hS 11 (by decide)), fun _ => ⟨⟨hp 10 (by kernel_rfl), hp 3 (by kernel_rfl)⟩, _, ev_, g, eg_, ha_.sp, hf.1.blk⟩, fun h => ⟨(F.out.s14 h).1, (F.out.s14 h).2.move (hS 10 (by decide))⟩, fun h => ⟨(F.out.s15 h).1, (F.out.s15 h).2.move (hS 11 (by decide))⟩⟩⟩
     refine StepsL.cons (i' := 15) (by rfl) ?_ ?_
     ·intro D xs wz hI hD hp A hA K hK
      obtain ⟨I, hF⟩ := hI
      have F := aS hF
      clear hF
      simp only [puts, List.foldl_cons, List.foldl_nil, Act.put, List.setIfInBounds_toArray, List.set_cons_zero, List.set_cons_succ] at hA
      subst hA
      obtain ⟨A3, c3, A4, c4, ev_, _⟩ := F.out.c6 (hp 6 (by kernel_rfl))
      obtain ⟨g, eg_, ha_⟩ := F.out.a11 (hp 11 (by kernel_rfl)) hD
      have hf := fill5' (x := b) (A3 := A3) (c3 := c3) (A4 := A4) (c4 := c4) ha_.blk
      have hc_ : ∀ k, k < wz.heap.size → ¬ ((I 10).1 ≤ k ∧ k < (I 10).2) → (wz.setCells g 0 [.int .i64 b.f0, .int .i64 b.f1, .string b.f2, .slice A3 b.f3.length c3, .slice A4 b.f4.length c4]).heap[k]? = wz.heap[k]? := fun k hk hn => hf.2.block k hk (fun e => by injection e with e; rw [ha_.sp] at hn; subst e; exact hn ⟨Nat.le_refl _, Nat.lt_succ_self _⟩)
      have hS := F.out.own.apart 10 hc_
      refine store_own (by rfl) rfl 27 _ _ rfl (g := g) (off := 0) (cur := #[.int .i64 0, .int .i64 0, .string (⟨#[]⟩ : ByteArray), .slice none 0 0, .slice none 0 0]) (e := 27) (u := .agg #[.int .i64 b.f0, .int .i64 b.f1, .string b.f2, .slice A3 b.f3.length c3, .slice A4 b.f4.length c4]) [.int .i64 b.f0, .int .i64 b.f1, .string b.f2, .slice A3 b.f3.length c3, .slice A4 b.f4.length c4] eg_ ev_ ha_.blk rfl (by kernel_rfl) (by simp) (by intro q_ hq_; simp at hq_; rcases hq_ with rfl | rfl | rfl | rfl | rfl <;> rfl) ?_
      exact hK.out undef _ ⟨I, ⟨F.out.below.trans (F.out.own.base (Nat.le_refl _) 10 hf.2.os hf.2.tape hf.2.output hf.2.size F.out.below.size hc_), F.out.own.grow hf.2.size, F.out.b0.move (hS 0 (by decide)), F.out.b1.move (hS 1 (by decide)), F.out.b2.move (hS 2 (by decide)), F.out.b3.move (hS 3 (by decide)), F.out.k4.move (hS 4 (by decide)), F.out.k5.move (hS 5 (by decide)), F.out.x0, F.out.x1, F.out.x2, fun d0 => (F.out.c3 d0).move (hS 6 (by decide)), F.out.x4, F.out.x5, fun d0 => (F.out.c6 d0).move (hS 7 (by decide)), F.out.x7, F.out.x8, fun d0 => (F.out.c9 d0).move (hS 8 (by decide)), fun d0 d1 => (F.out.a10 d0 d1).move (hS 9 (by decide)), fun _ h => (by cases h), fun d0 d1 => (F.out.a12 d0 d1).move (hS 11 (by decide)), fun h => ⟨(F.out.s13 h).1, (F.out.s13 h).2.move (hS 9 (by decide))⟩, fun _ => ⟨⟨hp 11 (by kernel_rfl), hp 6 (by kernel_rfl)⟩, _, ev_, g, eg_, ha_.sp, hf.1.blk⟩, fun h => ⟨(F.out.s15 h).1, (F.out.s15 h).2.move (hS 11 (by decide))⟩⟩⟩
     refine StepsL.cons (i' := 16) (by rfl) ?_ ?_
     ·intro D xs wz hI hD hp A hA K hK
      obtain ⟨I, hF⟩ := hI
      have F := aS hF
      clear hF
      simp only [puts, List.foldl_cons, List.foldl_nil, Act.put, List.setIfInBounds_toArray, List.set_cons_zero, List.set_cons_succ] at hA
      subst hA
      obtain ⟨A3, c3, A4, c4, ev_, _⟩ := F.out.c9 (hp 9 (by kernel_rfl))
      obtain ⟨g, eg_, ha_⟩ := F.out.a12 (hp 12 (by kernel_rfl)) hD
      have hf := fill5' (x := c) (A3 := A3) (c3 := c3) (A4 := A4) (c4 := c4) ha_.blk
      have hc_ : ∀ k, k < wz.heap.size → ¬ ((I 11).1 ≤ k ∧ k < (I 11).2) → (wz.setCells g 0 [.int .i64 c.f0, .int .i64 c.f1, .string c.f2, .slice A3 c.f3.length c3, .slice A4 c.f4.length c4]).heap[k]? = wz.heap[k]? := fun k hk hn => hf.2.block k hk (fun e => by injection e with e; rw [ha_.sp] at hn; subst e; exact hn ⟨Nat.le_refl _, Nat.lt_succ_self _⟩)
      have hS := F.out.own.apart 11 hc_
      refine store_own (by rfl) rfl 27 _ _ rfl (g := g) (off := 0) (cur := #[.int .i64 0, .int .i64 0, .string (⟨#[]⟩ : ByteArray), .slice none 0 0, .slice none 0 0]) (e := 27) (u := .agg #[.int .i64 c.f0, .int .i64 c.f1, .string c.f2, .slice A3 c.f3.length c3, .slice A4 c.f4.length c4]) [.int .i64 c.f0, .int .i64 c.f1, .string c.f2, .slice A3 c.f3.length c3, .slice A4 c.f4.length c4] eg_ ev_ ha_.blk rfl (by kernel_rfl) (by simp) (by intro q_ hq_; simp at hq_; rcases hq_ with rfl | rfl | rfl | rfl | rfl <;> rfl) ?_
      exact hK.out undef _ ⟨I, ⟨F.out.below.trans (F.out.own.base (Nat.le_refl _) 11 hf.2.os hf.2.tape hf.2.output hf.2.size F.out.below.size hc_), F.out.own.grow hf.2.size, F.out.b0.move (hS 0 (by decide)), F.out.b1.move (hS 1 (by decide)), F.out.b2.move (hS 2 (by decide)), F.out.b3.move (hS 3 (by decide)), F.out.k4.move (hS 4 (by decide)), F.out.k5.move (hS 5 (by decide)), F.out.x0, F.out.x1, F.out.x2, fun d0 => (F.out.c3 d0).move (hS 6 (by decide)), F.out.x4, F.out.x5, fun d0 => (F.out.c6 d0).move (hS 7 (by decide)), F.out.x7, F.out.x8, fun d0 => (F.out.c9 d0).move (hS 8 (by decide)), fun d0 d1 => (F.out.a10 d0 d1).move (hS 9 (by decide)), fun d0 d1 => (F.out.a11 d0 d1).move (hS 10 (by decide)), fun _ h => (by cases h), fun h => ⟨(F.out.s13 h).1, (F.out.s13 h).2.move (hS 9 (by decide))⟩, fun h => ⟨(F.out.s14 h).1, (F.out.s14 h).2.move (hS 10 (by decide))⟩, fun _ => ⟨⟨hp 12 (by kernel_rfl), hp 9 (by kernel_rfl)⟩, _, ev_, g, eg_, ha_.sp, hf.1.blk⟩⟩⟩
     exact StepsL.nil
    case fin =>
     intro D xs wy hI hD
     clear HF
     obtain ⟨I', F⟩ := hI
     obtain ⟨_, csA_, uA_, gA, pA_, atA_⟩ := F.s13 (hD 13 (by decide))
     obtain ⟨A3, Ac3, A4, Ac4, qA_, kA_⟩ := F.c3 (hD 3 (by decide))
     rw [qA_] at uA_
     injection uA_ with uA_
     subst uA_
     obtain ⟨_, csB_, uB_, gB, pB_, atB_⟩ := F.s14 (hD 14 (by decide))
     obtain ⟨B3, Bc3, B4, Bc4, qB_, kB_⟩ := F.c6 (hD 6 (by decide))
     rw [qB_] at uB_
     injection uB_ with uB_
     subst uB_
     obtain ⟨_, csC_, uC_, gC, pC_, atC_⟩ := F.s15 (hD 15 (by decide))
     obtain ⟨C3, Cc3, C4, Cc4, qC_, kC_⟩ := F.c9 (hD 9 (by decide))
     rw [qC_] at uC_
     injection uC_ with uC_
     subst uC_
     simp only [puts, List.foldl_cons, List.foldl_nil, Act.put, List.setIfInBounds_toArray, List.set_cons_zero, List.set_cons_succ, pA_, pB_, pC_]
     obtain ⟨X, hX⟩ : ∃ X : LX12, X = (⟨A3, Ac3, A4, Ac4, B3, Bc3, B4, Bc4, C3, Cc3, C4, Cc4⟩ : LX12) := ⟨_, rfl⟩
     have HF : Aside0 (F7 w Z t v ls g5 g6 ga gb (⟨T3, tc3, T4, tc4, V3, vc3, V4, vc4, none, 0⟩ : LZ12) gA gB gC (⟨A3, Ac3, A4, Ac4, B3, Bc3, B4, Bc4, C3, Cc3, C4, Cc4⟩ : LX12) a b c I' wy) := ⟨F.below, F.own, F.b0, F.b1, F.b2, F.b3, F.k4, F.k5, atA_, atB_, atC_⟩
     have KA := aS kA_
     have KB := aS kB_
     have KC := aS kC_
     clear F hD pA_ pB_ pC_ qA_ qB_ qC_ kA_ kB_ kC_ atA_ atB_ atC_ hX X
     go_upto_region 7 with fail
     refine wp_region_last_drew (S := (fun wq => F7 w Z t v ls g5 g6 ga gb (⟨T3, tc3, T4, tc4, V3, vc3, V4, vc4, none, 0⟩ : LZ12) gA gB gC (⟨A3, Ac3, A4, Ac4, B3, Bc3, B4, Bc4, C3, Cc3, C4, Cc4⟩ : LX12) a b c I' wq)) (ds := []) (by kernel_rfl) (by (try dsimp only); exact (HF.out.step (below_drew1 (Below.refl _ _)))) (fun hHeld => ?_)
     have hbs : Below wy.heap.size wy wy.drew := below_drew1 (Below.refl _ _)
     have HFo := HF.out
     replace HF := aS (HF.out.step hbs)
     replace KA := aS (KA.out.move (HFo.own.same hbs 6))
     replace KB := aS (KB.out.move (HFo.own.same hbs 7))
     replace KC := aS (KC.out.move (HFo.own.same hbs 8))
     clear hbs HFo
     refine wpAnyLast_take (i := 0) (oi := ({ dst := some 61, op := Go.Op.load 27 (Go.Operand.tmp 13), type := 27, pos := "law.go:77", after := #[], guard := none } : Oper)) (v := ?_) rfl (by kernel_rfl) (by kernel_rfl) (by kernel_rfl) (by kernel_rfl) (by kernel_rfl) (fun _ _ _ h => h) (Or.inl ⟨by rfl, ?_⟩) (by assumption) ?_
     rotate_left
     ·((intro w_ hSw; (try dsimp only at hSw); obtain ⟨s0_, s1_, s2_, s3_, s4_⟩ := hSw.bA.cells; go_simp) <;> with_reducible rfl)
     try simp only [Act.put, List.setIfInBounds_toArray, List.set_cons_zero, List.set_cons_succ]
     refine wpAnyLast_take (i := 1) (oi := ({ dst := some 62, op := Go.Op.load 27 (Go.Operand.tmp 5), type := 27, pos := "law.go:77", after := #[], guard := none } : Oper)) (v := ?_) rfl (by kernel_rfl) (by kernel_rfl) (by kernel_rfl) (by kernel_rfl) (by kernel_rfl) (fun _ _ _ h => h) (Or.inl ⟨by rfl, ?_⟩) (by assumption) ?_
     rotate_left
     ·((intro w_ hSw; (try dsimp only at hSw); obtain ⟨s0_, s1_, s2_, s3_, s4_⟩ := hSw.b0.cells; go_simp) <;> with_reducible rfl)
     try simp only [Act.put, List.setIfInBounds_toArray, List.set_cons_zero, List.set_cons_succ]
     refine wpAnyLast_take (i := 2) (oi := ({ dst := some 63, op := Go.Op.move (Go.Operand.tmp 2), type := 3, pos := "law.go:77", after := #[], guard := none } : Oper)) (v := ?_) rfl (by kernel_rfl) (by kernel_rfl) (by kernel_rfl) (by kernel_rfl) (by kernel_rfl) (fun _ _ _ h => h) (Or.inl ⟨by rfl, ?_⟩) (by assumption) ?_
     rotate_left
     ·((intro w_ hSw; (try dsimp only at hSw); go_simp) <;> with_reducible rfl)
     try simp only [Act.put, List.setIfInBounds_toArray, List.set_cons_zero, List.set_cons_succ]
     refine wpAnyLast_take (i := 3) (oi := ({ dst := some 64, op := Go.Op.move (Go.Operand.tmp 3), type := 3, pos := "law.go:77", after := #[], guard := none } : Oper)) (v := ?_) rfl (by kernel_rfl) (by kernel_rfl) (by kernel_rfl) (by kernel_rfl) (by kernel_rfl) (fun _ _ _ h => h) (Or.inl ⟨by rfl, ?_⟩) (by assumption) ?_
     rotate_left
     ·((intro w_ hSw; (try dsimp only at hSw); go_simp) <;> with_reducible rfl)
     try simp only [Act.put, List.setIfInBounds_toArray, List.set_cons_zero, List.set_cons_succ]
     refine wpAnyLast_ready (rs := [4]) (by kernel_rfl) (by simp) (AllReadyL.cons (o := ({ dst := some 65, op := Go.Op.call { callee := Go.Callee.value (Go.Operand.func 29), args := #[Go.Operand.tmp 62, Go.Operand.tmp 63, Go.Operand.tmp 64], argTypes := #[27, 3, 3] }, type := 27, pos := "law.go:77", after := #[{ on := 1, ground := Go.Ground.data }, { on := 2, ground := Go.Ground.data }, { on := 3, ground := Go.Ground.data }], guard := none } : Oper)) rfl (by decide) (fun K hK => ?_) AllReadyL.nil)
     go_simp
     go_wp2_with (first | (go_at_call 29; go_must (with_reducible refine (gliftR k RS.out.wa.choose_spec (Ct.out.below (below_step HF.out.below bs_)) RS.out.ga).mono ?_); rintro e wq ⟨vr, rfl, hres, hb⟩; obtain ⟨L3, Lc3, L4, Lc4, rfl, hq⟩ := hres; have CL := aS hq.now.ct; clear hq; have hbs := below_step bs_ hb; have HFo := HF.out; replace HF := aS (HF.out.step hbs); replace KA := aS (KA.out.move (HFo.own.same hbs 6)); replace KB := aS (KB.out.move (HFo.own.same hbs 7)); replace KC := aS (KC.out.move (HFo.own.same hbs 8)); clear hbs hb HFo))
     refine hK.out _ _ (by (try dsimp only); exact HF.out) (fun hHeld2 => ?_)
     clear hK K hHeld
     have hHeld := hHeld2
     clear hHeld2
     try simp only [Act.put, List.setIfInBounds_toArray, List.set_cons_zero, List.set_cons_succ]
     refine wpAnyLast_ready (rs := [5]) (by kernel_rfl) (by simp) (AllReadyL.cons (o := ({ dst := some 66, op := Go.Op.call { callee := Go.Callee.value (Go.Operand.func 23), args := #[Go.Operand.tmp 61, Go.Operand.tmp 65], argTypes := #[27, 27] }, type := 4, pos := "law.go:77", after := #[{ on := 0, ground := Go.Ground.data }, { on := 4, ground := Go.Ground.data }, { on := 4, ground := Go.Ground.chain }], guard := none } : Oper)) rfl (by decide) (fun K hK => ?_) AllReadyL.nil)
     go_simp
     go_wp2_with (first | (go_at_call 23; go_must (with_reducible refine (equal_c k ((KA.out.move (HF.out.own.same bs_ 6)).now.ct) (CL.out.below bs_) RS.out.ea).mono ?_); rintro e wq ⟨rfl, hb⟩; clear CL; have hbs := below_step bs_ hb; have HFo := HF.out; replace HF := aS (HF.out.step hbs); replace KA := aS (KA.out.move (HFo.own.same hbs 6)); replace KB := aS (KB.out.move (HFo.own.same hbs 7)); replace KC := aS (KC.out.move (HFo.own.same hbs 8)); clear hbs hb HFo))
     refine hK.out _ _ (by (try dsimp only); exact HF.out) (fun hHeld2 => ?_)
     clear hK K hHeld
     have hHeld := hHeld2
     clear hHeld2
     try simp only [Act.put, List.setIfInBounds_toArray, List.set_cons_zero, List.set_cons_succ]
     refine wpAnyLast_take (i := 6) (oi := ({ dst := some 67, op := Go.Op.move (Go.Operand.tmp 66), type := 4, pos := "law.go:77", after := #[{ on := 5, ground := Go.Ground.data }, { on := 5, ground := Go.Ground.chain }], guard := none } : Oper)) (v := ?_) rfl (by kernel_rfl) (by kernel_rfl) (by kernel_rfl) (by kernel_rfl) (by kernel_rfl) (fun _ _ _ h => h) (Or.inl ⟨by rfl, ?_⟩) (by assumption) ?_
     rotate_left
     ·((intro w_ hSw; (try dsimp only at hSw); go_simp) <;> with_reducible rfl)
     try simp only [Act.put, List.setIfInBounds_toArray, List.set_cons_zero, List.set_cons_succ]
     refine wpAnyLast_take (i := 7) (oi := ({ dst := some 68, op := Go.Op.load 27 (Go.Operand.tmp 14), type := 27, pos := "law.go:77", after := #[{ on := 6, ground := Go.Ground.guard }], guard := some (6, true) } : Oper)) (v := ?_) rfl (by kernel_rfl) (by kernel_rfl) (by kernel_rfl) (by kernel_rfl) (by kernel_rfl) (fun _ _ _ h => h) (Or.inl ⟨by rfl, ?_⟩) (by assumption) ?_
     rotate_left
     ·((intro w_ hSw; (try dsimp only at hSw); obtain ⟨s0_, s1_, s2_, s3_, s4_⟩ := hSw.bB.cells; go_simp) <;> with_reducible rfl)
     try simp only [Act.put, List.setIfInBounds_toArray, List.set_cons_zero, List.set_cons_succ]
     refine wpAnyLast_take (i := 8) (oi := ({ dst := some 69, op := Go.Op.load 27 (Go.Operand.tmp 5), type := 27, pos := "law.go:77", after := #[{ on := 6, ground := Go.Ground.guard }], guard := some (6, true) } : Oper)) (v := ?_) rfl (by kernel_rfl) (by kernel_rfl) (by kernel_rfl) (by kernel_rfl) (by kernel_rfl) (fun _ _ _ h => h) (Or.inl ⟨by rfl, ?_⟩) (by assumption) ?_
     rotate_left
     ·((intro w_ hSw; (try dsimp only at hSw); obtain ⟨s0_, s1_, s2_, s3_, s4_⟩ := hSw.b0.cells; go_simp) <;> with_reducible rfl)
     try simp only [Act.put, List.setIfInBounds_toArray, List.set_cons_zero, List.set_cons_succ]
     refine wpAnyLast_take (i := 9) (oi := ({ dst := some 70, op := Go.Op.load 27 (Go.Operand.tmp 6), type := 27, pos := "law.go:77", after := #[{ on := 6, ground := Go.Ground.guard }], guard := some (6, true) } : Oper)) (v := ?_) rfl (by kernel_rfl) (by kernel_rfl) (by kernel_rfl) (by kernel_rfl) (by kernel_rfl) (fun _ _ _ h => h) (Or.inl ⟨by rfl, ?_⟩) (by assumption) ?_
     rotate_left
     ·((intro w_ hSw; (try dsimp only at hSw); obtain ⟨s0_, s1_, s2_, s3_, s4_⟩ := hSw.b1.cells; go_simp) <;> with_reducible rfl)
     try simp only [Act.put, List.setIfInBounds_toArray, List.set_cons_zero, List.set_cons_succ]
     refine wpAnyLast_ready (rs := [10]) (by kernel_rfl) (by simp) (AllReadyL.cons (o := ({ dst := some 71, op := Go.Op.call { callee := Go.Callee.value (Go.Operand.func 28), args := #[Go.Operand.tmp 69, Go.Operand.tmp 70], argTypes := #[27, 27] }, type := 27, pos := "law.go:77", after := #[{ on := 8, ground := Go.Ground.data }, { on := 9, ground := Go.Ground.data }, { on := 6, ground := Go.Ground.chain }, { on := 6, ground := Go.Ground.guard }], guard := some (6, true) } : Oper)) rfl (by decide) (fun K hK => ?_) AllReadyL.nil)
     go_simp
     go_wp2_with (first | (go_at_call 28; go_must (with_reducible refine (gputR k RS.out.wb.choose_spec (Ct.out.below (below_step HF.out.below bs_)) (Cv.out.below (below_step HF.out.below bs_)) RS.out.gb).mono ?_); rintro e wq ⟨vr, rfl, hres, hb⟩; obtain ⟨M3, Mc3, M4, Mc4, rfl, hq⟩ := hres; have CM := aS hq.now.ct; clear hq; have hbs := below_step bs_ hb; have HFo := HF.out; replace HF := aS (HF.out.step hbs); replace KA := aS (KA.out.move (HFo.own.same hbs 6)); replace KB := aS (KB.out.move (HFo.own.same hbs 7)); replace KC := aS (KC.out.move (HFo.own.same hbs 8)); clear hbs hb HFo))
     refine hK.out _ _ (by (try dsimp only); exact HF.out) (fun hHeld2 => ?_)
     clear hK K hHeld
     have hHeld := hHeld2
     clear hHeld2
     try simp only [Act.put, List.setIfInBounds_toArray, List.set_cons_zero, List.set_cons_succ]
     refine wpAnyLast_ready (rs := [11]) (by kernel_rfl) (by simp) (AllReadyL.cons (o := ({ dst := some 72, op := Go.Op.call { callee := Go.Callee.value (Go.Operand.func 23), args := #[Go.Operand.tmp 68, Go.Operand.tmp 71], argTypes := #[27, 27] }, type := 4, pos := "law.go:77", after := #[{ on := 7, ground := Go.Ground.data }, { on := 10, ground := Go.Ground.data }, { on := 10, ground := Go.Ground.chain }, { on := 6, ground := Go.Ground.guard }], guard := some (6, true) } : Oper)) rfl (by decide) (fun K hK => ?_) AllReadyL.nil)
     go_simp
     go_wp2_with (first | (go_at_call 23; go_must (with_reducible refine (equal_c k ((KB.out.move (HF.out.own.same bs_ 7)).now.ct) (CM.out.below bs_) RS.out.eb).mono ?_); rintro e wq ⟨rfl, hb⟩; clear CM; have hbs := below_step bs_ hb; have HFo := HF.out; replace HF := aS (HF.out.step hbs); replace KA := aS (KA.out.move (HFo.own.same hbs 6)); replace KB := aS (KB.out.move (HFo.own.same hbs 7)); replace KC := aS (KC.out.move (HFo.own.same hbs 8)); clear hbs hb HFo))
     refine hK.out _ _ (by (try dsimp only); exact HF.out) (fun hHeld2 => ?_)
     clear hK K hHeld
     have hHeld := hHeld2
     clear hHeld2
     try simp only [Act.put, List.setIfInBounds_toArray, List.set_cons_zero, List.set_cons_succ]
     refine wpAnyLast_take (i := 12) (oi := ({ dst := some 73, op := Go.Op.pick (Go.Operand.tmp 67) (Go.Operand.tmp 72) (Go.Operand.const (Go.Value.bool false)), type := 4, pos := "law.go:77", after := #[{ on := 6, ground := Go.Ground.data }, { on := 11, ground := Go.Ground.data }], guard := none } : Oper)) (v := ?_) rfl (by kernel_rfl) (by kernel_rfl) (by kernel_rfl) (by kernel_rfl) (by kernel_rfl) (fun _ _ _ h => h) (Or.inl ⟨by rfl, ?_⟩) (by assumption) ?_
     rotate_left
     ·((intro w_ hSw; (try dsimp only at hSw); go_simp) <;> with_reducible rfl)
     try simp only [Act.put, List.setIfInBounds_toArray, List.set_cons_zero, List.set_cons_succ]
     refine wpAnyLast_take (i := 13) (oi := ({ dst := some 74, op := Go.Op.move (Go.Operand.tmp 73), type := 4, pos := "law.go:77", after := #[{ on := 12, ground := Go.Ground.data }, { on := 11, ground := Go.Ground.chain }], guard := none } : Oper)) (v := ?_) rfl (by kernel_rfl) (by kernel_rfl) (by kernel_rfl) (by kernel_rfl) (by kernel_rfl) (fun _ _ _ h => h) (Or.inl ⟨by rfl, ?_⟩) (by assumption) ?_
     rotate_left
     ·((intro w_ hSw; (try dsimp only at hSw); go_simp) <;> with_reducible rfl)
     try simp only [Act.put, List.setIfInBounds_toArray, List.set_cons_zero, List.set_cons_succ]
     refine wpAnyLast_take (i := 14) (oi := ({ dst := some 75, op := Go.Op.load 27 (Go.Operand.tmp 15), type := 27, pos := "law.go:77", after := #[{ on := 13, ground := Go.Ground.guard }], guard := some (13, true) } : Oper)) (v := ?_) rfl (by kernel_rfl) (by kernel_rfl) (by kernel_rfl) (by kernel_rfl) (by kernel_rfl) (fun _ _ _ h => h) (Or.inl ⟨by rfl, ?_⟩) (by assumption) ?_
     rotate_left
     ·((intro w_ hSw; (try dsimp only at hSw); obtain ⟨s0_, s1_, s2_, s3_, s4_⟩ := hSw.bC.cells; go_simp) <;> with_reducible rfl)
     try simp only [Act.put, List.setIfInBounds_toArray, List.set_cons_zero, List.set_cons_succ]
     refine wpAnyLast_take (i := 15) (oi := ({ dst := some 76, op := Go.Op.load 27 (Go.Operand.tmp 5), type := 27, pos := "law.go:77", after := #[{ on := 13, ground := Go.Ground.guard }], guard := some (13, true) } : Oper)) (v := ?_) rfl (by kernel_rfl) (by kernel_rfl) (by kernel_rfl) (by kernel_rfl) (by kernel_rfl) (fun _ _ _ h => h) (Or.inl ⟨by rfl, ?_⟩) (by assumption) ?_
     rotate_left
     ·((intro w_ hSw; (try dsimp only at hSw); obtain ⟨s0_, s1_, s2_, s3_, s4_⟩ := hSw.b0.cells; go_simp) <;> with_reducible rfl)
     try simp only [Act.put, List.setIfInBounds_toArray, List.set_cons_zero, List.set_cons_succ]
     refine wpAnyLast_take (i := 16) (oi := ({ dst := some 77, op := Go.Op.move (Go.Operand.tmp 4), type := 25, pos := "law.go:77", after := #[{ on := 13, ground := Go.Ground.guard }], guard := some (13, true) } : Oper)) (v := ?_) rfl (by kernel_rfl) (by kernel_rfl) (by kernel_rfl) (by kernel_rfl) (by kernel_rfl) (fun _ _ _ h => h) (Or.inl ⟨by rfl, ?_⟩) (by assumption) ?_
     rotate_left
     ·((intro w_ hSw; (try dsimp only at hSw); go_simp) <;> with_reducible rfl)
     try simp only [Act.put, List.setIfInBounds_toArray, List.set_cons_zero, List.set_cons_succ]
     refine wpAnyLast_ready (rs := [17]) (by kernel_rfl) (by simp) (AllReadyL.cons (o := ({ dst := some 78, op := Go.Op.call { callee := Go.Callee.value (Go.Operand.func 54), args := #[Go.Operand.tmp 76, Go.Operand.tmp 77], argTypes := #[27, 25] }, type := 27, pos := "law.go:77", after := #[{ on := 15, ground := Go.Ground.data }, { on := 16, ground := Go.Ground.data }, { on := 13, ground := Go.Ground.chain }, { on := 13, ground := Go.Ground.guard }], guard := some (13, true) } : Oper)) rfl (by decide) (fun K hK => ?_) AllReadyL.nil)
     go_simp
     go_wp2_with (first | (go_at_call 54; go_must (with_reducible refine (glevels_c k (Ct.out.below (below_step HF.out.below bs_)) (Kd.C_below Cl.out.1 (below_step HF.out.below bs_)) Cl.out.2 RS.out.gl).mono ?_); rintro e wq ⟨O3, Oc3, O4, Oc4, rfl, hq, hb⟩; have CO := aS hq; clear hq; have hbs := below_step bs_ hb; have HFo := HF.out; replace HF := aS (HF.out.step hbs); replace KA := aS (KA.out.move (HFo.own.same hbs 6)); replace KB := aS (KB.out.move (HFo.own.same hbs 7)); replace KC := aS (KC.out.move (HFo.own.same hbs 8)); clear hbs hb HFo))
     refine hK.out _ _ (by (try dsimp only); exact HF.out) (fun hHeld2 => ?_)
     clear hK K hHeld
     have hHeld := hHeld2
     clear hHeld2
     try simp only [Act.put, List.setIfInBounds_toArray, List.set_cons_zero, List.set_cons_succ]
     refine wpAnyLast_ready (rs := [18]) (by kernel_rfl) (by simp) (AllReadyL.cons (o := ({ dst := some 79, op := Go.Op.call { callee := Go.Callee.value (Go.Operand.func 23), args := #[Go.Operand.tmp 75, Go.Operand.tmp 78], argTypes := #[27, 27] }, type := 4, pos := "law.go:77", after := #[{ on := 14, ground := Go.Ground.data }, { on := 17, ground := Go.Ground.data }, { on := 17, ground := Go.Ground.chain }, { on := 13, ground := Go.Ground.guard }], guard := some (13, true) } : Oper)) rfl (by decide) (fun K hK => ?_) AllReadyL.nil)
     go_simp
     go_wp2_with (first | (go_at_call 23; go_must (with_reducible refine (equal_c k ((KC.out.move (HF.out.own.same bs_ 8)).now.ct) (CO.out.below bs_) RS.out.ec).mono ?_); rintro e wq ⟨rfl, hb⟩; clear CO; have hbs := below_step bs_ hb; have HFo := HF.out; replace HF := aS (HF.out.step hbs); replace KA := aS (KA.out.move (HFo.own.same hbs 6)); replace KB := aS (KB.out.move (HFo.own.same hbs 7)); replace KC := aS (KC.out.move (HFo.own.same hbs 8)); clear hbs hb HFo))
     refine hK.out _ _ (by (try dsimp only); exact HF.out) (fun hHeld2 => ?_)
     clear hK K hHeld
     have hHeld := hHeld2
     clear hHeld2
     try simp only [Act.put, List.setIfInBounds_toArray, List.set_cons_zero, List.set_cons_succ]
     refine wpAnyLast_take (i := 19) (oi := ({ dst := some 80, op := Go.Op.pick (Go.Operand.tmp 74) (Go.Operand.tmp 79) (Go.Operand.const (Go.Value.bool false)), type := 4, pos := "law.go:77", after := #[{ on := 13, ground := Go.Ground.data }, { on := 18, ground := Go.Ground.data }], guard := none } : Oper)) (v := ?_) rfl (by kernel_rfl) (by kernel_rfl) (by kernel_rfl) (by kernel_rfl) (by kernel_rfl) (fun _ _ _ h => h) (Or.inl ⟨by rfl, ?_⟩) (by assumption) ?_
     rotate_left
     ·((intro w_ hSw; (try dsimp only at hSw); go_simp) <;> with_reducible rfl)
     try simp only [Act.put, List.setIfInBounds_toArray, List.set_cons_zero, List.set_cons_succ]
     refine wpAnyLast_take (i := 20) (oi := ({ dst := some 16, op := Go.Op.assign (Go.Operand.tmp 80), type := 4, pos := "law.go:77", after := #[{ on := 19, ground := Go.Ground.data }, { on := 18, ground := Go.Ground.chain }, { on := 0, ground := Go.Ground.phase }, { on := 1, ground := Go.Ground.phase }, { on := 2, ground := Go.Ground.phase }, { on := 3, ground := Go.Ground.phase }, { on := 4, ground := Go.Ground.phase }, { on := 5, ground := Go.Ground.phase }, { on := 6, ground := Go.Ground.phase }, { on := 7, ground := Go.Ground.phase }, { on := 8, ground := Go.Ground.phase }, { on := 9, ground := Go.Ground.phase }, { on := 10, ground := Go.Ground.phase }, { on := 11, ground := Go.Ground.phase }, { on := 12, ground := Go.Ground.phase }, { on := 13, ground := Go.Ground.phase }, { on := 14, ground := Go.Ground.phase }, { on := 15, ground := Go.Ground.phase }, { on := 16, ground := Go.Ground.phase }, { on := 17, ground := Go.Ground.phase }, { on := 18, ground := Go.Ground.phase }, { on := 19, ground := Go.Ground.phase }], guard := none } : Oper)) (v := ?_) rfl (by kernel_rfl) (by kernel_rfl) (by kernel_rfl) (by kernel_rfl) (by kernel_rfl) (fun _ _ _ h => h) (Or.inl ⟨by rfl, ?_⟩) (by assumption) ?_
     rotate_left
     ·((intro w_ hSw; (try dsimp only at hSw); go_simp) <;> with_reducible rfl)
     try simp only [Act.put, List.setIfInBounds_toArray, List.set_cons_zero, List.set_cons_succ]
     refine wpAnyLast_done (by kernel_rfl) ?_ _
     obtain ⟨z0_, z1_, z2_, z3_, z4_⟩ := HF.out.bA.cells
     go_upto_region 9 with (first | (go_at_call 55; go_must (with_reducible refine (wipeI (HF.out.own.grow (below_size bs_)) 6 (KA.out.move (HF.out.own.same bs_ 6)) (Nat.le_trans (HF.out.lo 6) (below_size bs_))).mono ?_); rintro e wp ⟨rfl, hs, hc⟩; have HFo := HF.out.step bs_; replace HF := aS (HF.out.mv 6 (by decide) (HFo.own.apart 6 hc) hs.1 hs.2.1 hs.2.2.1 hs.2.2.2 hc); replace KB := aS (KB.out.move (HFo.own.apart 6 hc 7 (by decide))); replace KC := aS (KC.out.move (HFo.own.apart 6 hc 8 (by decide))); clear KA hs hc HFo))
     (try clear z0_ z1_ z2_ z3_ z4_)
     obtain ⟨z0_, z1_, z2_, z3_, z4_⟩ := HF.out.bB.cells
     go_upto_region 10 with (first | (go_at_call 55; go_must (with_reducible refine (wipeI (HF.out.own.grow (below_size bs_)) 7 (KB.out.move (HF.out.own.same bs_ 7)) (Nat.le_trans (HF.out.lo 7) (below_size bs_))).mono ?_); rintro e wp ⟨rfl, hs, hc⟩; have HFo := HF.out.step bs_; replace HF := aS (HF.out.mv 7 (by decide) (HFo.own.apart 7 hc) hs.1 hs.2.1 hs.2.2.1 hs.2.2.2 hc); replace KC := aS (KC.out.move (HFo.own.apart 7 hc 8 (by decide))); clear KB hs hc HFo))
     (try clear z0_ z1_ z2_ z3_ z4_)
     obtain ⟨z0_, z1_, z2_, z3_, z4_⟩ := HF.out.bC.cells
     go_upto_region 11 with (first | (go_at_call 55; go_must (with_reducible refine (wipeI (HF.out.own.grow (below_size bs_)) 8 (KC.out.move (HF.out.own.same bs_ 8)) (Nat.le_trans (HF.out.lo 8) (below_size bs_))).mono ?_); rintro e wp ⟨rfl, hs, hc⟩; have HFo := HF.out.step bs_; replace HF := aS (HF.out.mv 8 (by decide) (HFo.own.apart 8 hc) hs.1 hs.2.1 hs.2.2.1 hs.2.2.2 hc); clear KC hs hc HFo))
     (try clear z0_ z1_ z2_ z3_ z4_)
     obtain ⟨z0_, z1_, z2_, z3_, z4_⟩ := HF.out.b0.cells
     obtain ⟨u0_, u1_, u2_, u3_, u4_⟩ := HF.out.b2.cells
     obtain ⟨p0_, p1_, p2_, p3_, p4_⟩ := HF.out.b1.cells
     obtain ⟨q0_, q1_, q2_, q3_, q4_⟩ := HF.out.b3.cells
     go_wp2_with (first | (go_at_call 23; (with_reducible refine (equal_c k (Ct.out.below (below_step HF.out.below bs_)) ((HF.out.step bs_).k4.now.ct) RS.out.et).mono ?_); rintro e wl ⟨rfl, hb⟩; replace HF := aS (HF.out.step (below_step bs_ hb)); clear hb; (try clear z0_ z1_ z2_ z3_ z4_ u0_ u1_ u2_ u3_ u4_ p0_ p1_ p2_ p3_ p4_ q0_ q1_ q2_ q3_ q4_); obtain ⟨p0_, p1_, p2_, p3_, p4_⟩ := HF.out.b1.cells; obtain ⟨q0_, q1_, q2_, q3_, q4_⟩ := HF.out.b3.cells) | (go_at_call 23; go_must (with_reducible refine (equal_c k (Cv.out.below (below_step HF.out.below bs_)) ((HF.out.step bs_).k5.now.ct) RS.out.ev).mono ?_); rintro e wl ⟨rfl, hb⟩; replace HF := aS (HF.out.step (below_step bs_ hb)); clear hb))
     go_ret
     exact ⟨rfl, (by repeat (first | (with_reducible exact HF.out.below) | apply pw_below_drewN | apply below_drew1))⟩
end Go.Proofs.Ytpejhapgffcngaa.QK

