/- SHA-256's words, as the document's answer reckons them: what the walk says. -/
import Derived.Test.YtgaekibompacnaaDoorQDShaMix
import Derived.Test.YtgaekibompacnaaDoorQDx1
set_option linter.unusedVariables false
set_option linter.unusedSimpArgs false
namespace Go.Proofs.YtgaekibompacnaaDoor.QD
open Go.RowKit Go.Proofs.YtgaekibompacnaaDoorW.PrintWords Go.Proofs.YtgaekibompacnaaDoorW.PrintLast Go.Proofs.YtgaekibompacnaaDoorW.PrintMore
def iter (f : Int → Int) : Nat → Int → Int
  | 0, x => x
  | n + 1, x => iter f n (f x)
def tstep (x : Int) : Int := IntKind.u64.wrap ((IntKind.u64.wrap (Int.tdiv x 2)) + (IntKind.u64.wrap ((Int.tmod x 2) * 2147483648)))
def dstep (x : Int) : Int := IntKind.u64.wrap (Int.tdiv x 2)
def tr64 (x n : Int) : Int := iter tstep n.toNat x
def dn64 (x n : Int) : Int := iter dstep n.toNat x
theorem turn64_is (x n : Int) (h0 : 0 ≤ n) (h1 : n ≤ 32) : touchstoneref2_turn.f 40 x n = some (tr64 x n) := by
  have key : ∀ (d k : Nat) (x i : Int), 0 ≤ i → (n - i).toNat = d → d < k → i ≤ n → touchstoneref2_turn.l0 k x n i = some (iter tstep d x) := by
    intro d
    induction d with
    | zero =>
      intro k x i hi hd hk hn
      cases k with
      | zero => omega
      | succ k => rw [touchstoneref2_turn.l0, if_neg (by omega)]; rfl
    | succ d ih =>
      intro k x i hi hd hk hn
      cases k with
      | zero => omega
      | succ k =>
        rw [touchstoneref2_turn.l0, if_pos (by omega)]
        have hw : wrap64 (i + 1) = i + 1 := OctetMath.wrap64_id (by omega) (by omega)
        rw [hw]
        exact ih k _ (i + 1) (by omega) (by omega) (by omega) (by omega)
  exact key n.toNat 40 x 0 (by omega) (by omega) (by omega) h0
theorem down64_is (x n : Int) (h0 : 0 ≤ n) (h1 : n ≤ 32) : touchstoneref2_down.f 40 x n = some (dn64 x n) := by
  have key : ∀ (d k : Nat) (x i : Int), 0 ≤ i → (n - i).toNat = d → d < k → i ≤ n → touchstoneref2_down.l0 k x n i = some (iter dstep d x) := by
    intro d
    induction d with
    | zero =>
      intro k x i hi hd hk hn
      cases k with
      | zero => omega
      | succ k => rw [touchstoneref2_down.l0, if_neg (by omega)]; rfl
    | succ d ih =>
      intro k x i hi hd hk hn
      cases k with
      | zero => omega
      | succ k =>
        rw [touchstoneref2_down.l0, if_pos (by omega)]
        have hw : wrap64 (i + 1) = i + 1 := OctetMath.wrap64_id (by omega) (by omega)
        rw [hw]
        exact ih k _ (i + 1) (by omega) (by omega) (by omega) (by omega)
  exact key n.toNat 40 x 0 (by omega) (by omega) (by omega) h0
theorem turn64_c (w : World) (x n : Int) (h0 : 0 ≤ n) (h1 : n ≤ 32) : Calls Tryd.prog 39 #[.int .u64 x, .int .i64 n] w fun e w' => e = .returned (.int .u64 (tr64 x n)) ∧ ∃ m, w' = w.drewN m :=
  (touchstoneref2_turn.calls 40 x n _ w (turn64_is x n h0 h1)).mono fun e w' ⟨he, m, hm⟩ => ⟨he, m, hm⟩
theorem down64_c (w : World) (x n : Int) (h0 : 0 ≤ n) (h1 : n ≤ 32) : Calls Tryd.prog 40 #[.int .u64 x, .int .i64 n] w fun e w' => e = .returned (.int .u64 (dn64 x n)) ∧ ∃ m, w' = w.drewN m :=
  (touchstoneref2_down.calls 40 x n _ w (down64_is x n h0 h1)).mono fun e w' ⟨he, m, hm⟩ => ⟨he, m, hm⟩
def longs (l : List Int) : Array Value := (l.map (Value.int .u64)).toArray
theorem longs_at (x : List Int) {i : Nat} (h : i < x.length) : (longs x)[i]? = some (.int .u64 (rd x i)) := by
  unfold longs rd
  simp [List.getD_eq_getElem?_getD, List.getElem?_eq_getElem h]
theorem longs_set (l : List Int) (i : Nat) (v : Int) : (longs l).setIfInBounds i (.int .u64 v) = longs (l.set i v) := by
  unfold longs
  simp [List.map_set]
theorem longs_size (l : List Int) : (longs l).size = l.length := by simp [longs]
theorem longs_one (l : List Int) : (longs l).all (·.oneCell') = true := by simp [longs, Value.oneCell']
def sigA64 (x : Int) : Int := Go.bits .xor .u64 (Go.bits .xor .u64 (tr64 x 7) (tr64 x 18)) (dn64 x 3)
def sigB64 (x : Int) : Int := Go.bits .xor .u64 (Go.bits .xor .u64 (tr64 x 17) (tr64 x 19)) (dn64 x 10)
end Go.Proofs.YtgaekibompacnaaDoor.QD
