/- TermThrough: what the law makes answers true. -/
import Derived.Test.YtpejhapgffcngaaQKWalk5
import Derived.Test.YtpejhapgffcngaaQKCopyPure
import Derived.Test.YtpejhapgffcngaaQKThroughPure
set_option linter.unusedVariables false
set_option linter.unusedSimpArgs false
namespace Go.Proofs.Ytpejhapgffcngaa.QK
open Go.RowKit Go.Proofs.YtpejhapgffcngaaW.PrintWords Go.Proofs.YtpejhapgffcngaaW.PrintLast Go.Proofs.YtpejhapgffcngaaW.PrintMore
def Thr5 (k : Nat) (t v u : S27) : Prop := ∃ b, Go5 k t v u b ∧ (b = false → ∃ p a i c l d e : S27, Res5 k t v u p a i c l d e)
theorem thr5.calls (k : Nat) (t : S27) (A3 : Option Addr) (c3 : Nat) (A4 : Option Addr) (c4 : Nat) (v : S27) (B3 : Option Addr) (d3 : Nat) (B4 : Option Addr) (d4 : Nat) (u : S27) (D3 : Option Addr) (e3 : Nat) (D4 : Option Addr) (e4 : Nat) (w : World)
  (h1 : Kd.C k76 w A3 t.f3.length t.f3) (h2 : t.f3.length ≤ c3) (h3 : Kd.C k27 w A4 t.f4.length t.f4) (h4 : t.f4.length ≤ c4) (i1 : Kd.C k76 w B3 v.f3.length v.f3) (i2 : v.f3.length ≤ d3) (i3 : Kd.C k27 w B4 v.f4.length v.f4) (i4 : v.f4.length ≤ d4) (j1 : Kd.C k76 w D3 u.f3.length u.f3) (j2 : u.f3.length ≤ e3) (j3 : Kd.C k27 w D4 u.f4.length u.f4) (j4 : u.f4.length ≤ e4) (h : Thr5 k t v u) :
  Calls Try.prog 9 #[.agg #[.int .i64 t.f0, .int .i64 t.f1, .string t.f2, .slice A3 t.f3.length c3, .slice A4 t.f4.length c4], .agg #[.int .i64 v.f0, .int .i64 v.f1, .string v.f2, .slice B3 v.f3.length d3, .slice B4 v.f4.length d4], .agg #[.int .i64 u.f0, .int .i64 u.f1, .string u.f2, .slice D3 u.f3.length e3, .slice D4 u.f4.length e4]] w fun e w' => e = .returned (.bool true) ∧ Below w.heap.size w w' := by
 obtain ⟨b, hG, hR⟩ := h
 exact through.walk k ⟨A3, c3, A4, c4, B3, d3, B4, d4, D3, e3, D4, e4⟩ t v u b w ⟨h1, h2, h3, h4⟩ ⟨i1, i2, i3, i4⟩ ⟨j1, j2, j3, j4⟩ rfl hG hR
theorem TermThrough (t v u : S27) (ht : Ok27 t) (hv : Ok27 v) (hu : Ok27 u) : ∃ k, Thr5 k t v u := by
 obtain ⟨b0, ⟨n0, l0⟩, m0⟩ := light_is ht 300 (by omega) (by omega)
 cases b0
 ·exact ⟨n0, true, .c0 ⟨l0 _ (Nat.le_refl _)⟩, fun h => by cases h⟩
 obtain ⟨wt, st⟩ := m0 rfl
 obtain ⟨b1, ⟨n1, l1⟩, m1⟩ := light_is hv 60 (by omega) (by omega)
 cases b1
 ·exact ⟨max n0 n1, true, .c1 ⟨l0 _ (Nat.le_max_left _ _)⟩ ⟨l1 _ (Nat.le_max_right _ _)⟩, fun h => by cases h⟩
 obtain ⟨wv, sv⟩ := m1 rfl
 obtain ⟨b2, ⟨n2, l2⟩, m2⟩ := light_is hu 60 (by omega) (by omega)
 cases b2
 ·exact ⟨n0 + n1 + n2, true, .c2 ⟨l0 _ (by omega)⟩ ⟨l1 _ (by omega)⟩ ⟨l2 _ (by omega)⟩, fun h => by cases h⟩
 obtain ⟨wu, su⟩ := m2 rfl
 obtain ⟨b3, ⟨n3, l3⟩, m3⟩ := far_is wt
 cases b3
 rotate_left
 ·exact ⟨n0 + n1 + n2 + n3, true, .c3 ⟨l0 _ (by omega)⟩ ⟨l1 _ (by omega)⟩ ⟨l2 _ (by omega)⟩ ⟨l3 _ (by omega)⟩, fun h => by cases h⟩
 obtain ⟨b4, ⟨n4, l4⟩, m4⟩ := far_is wv
 cases b4
 rotate_left
 ·exact ⟨n0 + n1 + n2 + n3 + n4, true, .c4 ⟨l0 _ (by omega)⟩ ⟨l1 _ (by omega)⟩ ⟨l2 _ (by omega)⟩ ⟨l3 _ (by omega)⟩ ⟨l4 _ (by omega)⟩, fun h => by cases h⟩
 obtain ⟨b5, ⟨n5, l5⟩, m5⟩ := far_is wu
 cases b5
 rotate_left
 ·exact ⟨n0 + n1 + n2 + n3 + n4 + n5, true, .c5 true ⟨l0 _ (by omega)⟩ ⟨l1 _ (by omega)⟩ ⟨l2 _ (by omega)⟩ ⟨l3 _ (by omega)⟩ ⟨l4 _ (by omega)⟩ ⟨l5 _ (by omega)⟩, fun h => by cases h⟩
 have ft := m3 rfl
 have fv := m4 rfl
 have fu := m5 rfl
 have M1 : ∀ {a b c d : Nat}, a ≤ c → b ≤ d → a * b ≤ c * d := fun h1 h2 => Nat.mul_le_mul h1 h2
 have s1 : szT t ≤ 300 := by omega
 have s2 : szT v ≤ 60 := by omega
 have s3 : szT u ≤ 60 := by omega
 have St : Small 1000000 0 t := ⟨ft, by omega, by omega, by omega⟩
 have Sv : Small 1000000 0 v := ⟨fv, by omega, by omega, by omega⟩
 have Su : Small 1000000 0 u := ⟨fu, by omega, by omega, by omega⟩
 have wp : WhB (1000000 + 300) (puT v t 0) := put_wh fv ft 0 (by omega) (by omega)
 have zp : szT (puT v t 0) ≤ 18000 := Nat.le_trans (put_sz fv ft 0) (M1 s1 s2)
 have Sp : Small (1000000 + 300) 0 (puT v t 0) := ⟨wp, by omega, by omega, by omega⟩
 have wa : WhB (1000000 + 300 + 18000) (puT u (puT v t 0) 0) := put_wh (fu.more (by omega)) wp 0 (by omega) (by omega)
 have wi : WhB (1000000 + 60) (puT u v 0) := put_wh fu fv 0 (by omega) (by omega)
 have zi : szT (puT u v 0) ≤ 3600 := Nat.le_trans (put_sz fu fv 0) (M1 s2 s3)
 have Si : Small (1000000 + 60) 0 (puT u v 0) := ⟨wi, by omega, by omega, by omega⟩
 have wl : WhB (1000000 + 1) (liT 1 0 u 0) := lift_wh (by omega) fu 0
 have zl : szT (liT 1 0 u 0) ≤ 60 := by rw [lift_sz fu 0]; exact s3
 have Sl : Small (1000000 + 1) 0 (liT 1 0 u 0) := ⟨wl, by omega, by omega, by omega⟩
 have ws : WhB (1000000 + 1) (swT t 0) := swap_wh ft 0 (by omega)
 have zs : szT (swT t 0) ≤ 300 := by rw [swap_sz ft 0]; exact s1
 have Ss : Small (1000000 + 1) 0 (swT t 0) := ⟨ws, by omega, by omega, by omega⟩
 have wd : WhB (1000000 + 1 + 300) (puT (liT 1 0 u 0) (swT t 0) 0) := put_wh wl ws 0 (by omega) (by omega)
 have zd : szT (puT (liT 1 0 u 0) (swT t 0) 0) ≤ 18000 := Nat.le_trans (put_sz wl ws 0) (M1 zs zl)
 have Sd : Small (1000000 + 1 + 300) 0 (puT (liT 1 0 u 0) (swT t 0) 0) := ⟨wd, by omega, by omega, by omega⟩
 have he : puT u (puT v t 0) 0 = puT (puT u v 0) (puT (liT 1 0 u 0) (swT t 0) 0) 0 := through fv fu ft 0 (by omega)
 obtain ⟨a1, p1⟩ := put_is St Sv
 obtain ⟨a2, p2⟩ := put_is Sp Su
 obtain ⟨a3, p3⟩ := put_is Sv Su
 obtain ⟨a4, p4⟩ := copy_is St
 obtain ⟨a5, p5⟩ := lift_is (b := 1) (fr := 0) (by omega) (by omega) (by omega) (by omega) Su
 obtain ⟨a6, p6⟩ := put_is Ss Sl
 obtain ⟨a7, p7⟩ := put_is Sd Si
 obtain ⟨a8, p8⟩ := teq_is wa
 refine ⟨n0 + n1 + n2 + n3 + n4 + n5 + (a1 + a2 + a3 + a4 + a5 + a6 + a7 + a8), false, .c5 false ⟨l0 _ (by omega)⟩ ⟨l1 _ (by omega)⟩ ⟨l2 _ (by omega)⟩ ⟨l3 _ (by omega)⟩ ⟨l4 _ (by omega)⟩ ⟨l5 _ (by omega)⟩, fun _ => ⟨puT v t 0, puT u (puT v t 0) 0, puT u v 0, t, liT 1 0 u 0, puT (liT 1 0 u 0) (swT t 0) 0, puT (puT u v 0) (puT (liT 1 0 u 0) (swT t 0) 0) 0, ?_⟩⟩
 refine ⟨p1 _ (by omega), p2 _ (by omega), p3 _ (by omega), p4 _ (by omega), ⟨_, ft⟩, by omega, p5 _ (by omega), p6 _ (by omega), p7 _ (by omega), ?_⟩
 rw [← he]
 exact p8 _ (by omega)
end Go.Proofs.Ytpejhapgffcngaa.QK

