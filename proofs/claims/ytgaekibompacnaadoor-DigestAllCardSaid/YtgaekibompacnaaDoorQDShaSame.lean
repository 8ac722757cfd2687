/- The document's words and the program's are the same. -/
import Derived.Test.YtgaekibompacnaaDoorQDShaBlock
set_option linter.unusedVariables false
set_option linter.unusedSimpArgs false
namespace Go.Proofs.YtgaekibompacnaaDoor.QD
open Go.RowKit Go.Proofs.YtgaekibompacnaaDoorW.PrintWords Go.Proofs.YtgaekibompacnaaDoorW.PrintLast Go.Proofs.YtgaekibompacnaaDoorW.PrintMore
/-- A word of 32 bits. -/
def Wd (x : Int) : Prop := 0 ≤ x ∧ x < 4294967296
theorem Wd.nat {x : Int} (h : Wd x) : ∃ a : Nat, a < 2 ^ 32 ∧ x = (a : Int) := ⟨x.toNat, by have := h.1; have := h.2; omega, by have := h.1; omega⟩
theorem wd_nat {a : Nat} (h : a < 2 ^ 32) : Wd (a : Int) := ⟨by omega, by omega⟩
theorem wrap64u (x : Int) (h0 : 0 ≤ x) (h1 : x < 18446744073709551616) : IntKind.u64.wrap x = x := by
  simp only [IntKind.wrap, IntKind.signed, IntKind.bits]
  simp
  omega
theorem wrap32u (x : Int) : IntKind.u32.wrap x = x % 4294967296 := by
  simp only [IntKind.wrap, IntKind.signed, IntKind.bits]
  simp
theorem bits32 (op : BinOp) (a b : Nat) (ha : a < 2 ^ 32) (hb : b < 2 ^ 32) :
    Go.bits .and .u32 (a : Int) (b : Int) = ((a &&& b : Nat) : Int) ∧ Go.bits .or .u32 (a : Int) (b : Int) = ((a ||| b : Nat) : Int) ∧ Go.bits .xor .u32 (a : Int) (b : Int) = ((a ^^^ b : Nat) : Int) := by
  have e : ∀ n : Nat, n < 2 ^ 32 → IntKind.u32.wrap (n : Int) = (n : Int) := fun n hn => by rw [wrap32u]; omega
  have hx : ∀ c : Nat, c < 2 ^ 32 → (BitVec.ofInt 32 (c : Int)).toNat = c := fun c hc => by
    rw [BitVec.toNat_ofInt]; omega
  refine ⟨?_, ?_, ?_⟩
  · show IntKind.u32.wrap (((BitVec.ofInt 32 (a : Int)) &&& (BitVec.ofInt 32 (b : Int))).toNat : Int) = _
    rw [BitVec.toNat_and, hx a ha, hx b hb, e _ (Nat.and_lt_two_pow _ hb)]
  · show IntKind.u32.wrap (((BitVec.ofInt 32 (a : Int)) ||| (BitVec.ofInt 32 (b : Int))).toNat : Int) = _
    rw [BitVec.toNat_or, hx a ha, hx b hb, e _ (Nat.or_lt_two_pow ha hb)]
  · show IntKind.u32.wrap (((BitVec.ofInt 32 (a : Int)) ^^^ (BitVec.ofInt 32 (b : Int))).toNat : Int) = _
    rw [BitVec.toNat_xor, hx a ha, hx b hb, e _ (Nat.xor_lt_two_pow ha hb)]
theorem bits64 (op : BinOp) (a b : Nat) (ha : a < 2 ^ 64) (hb : b < 2 ^ 64) :
    Go.bits .and .u64 (a : Int) (b : Int) = ((a &&& b : Nat) : Int) ∧ Go.bits .or .u64 (a : Int) (b : Int) = ((a ||| b : Nat) : Int) ∧ Go.bits .xor .u64 (a : Int) (b : Int) = ((a ^^^ b : Nat) : Int) := by
  have e : ∀ n : Nat, n < 2 ^ 64 → IntKind.u64.wrap (n : Int) = (n : Int) := fun n hn => wrap64u _ (by omega) (by omega)
  have hx : ∀ c : Nat, c < 2 ^ 64 → (BitVec.ofInt 64 (c : Int)).toNat = c := fun c hc => by
    rw [BitVec.toNat_ofInt]; omega
  refine ⟨?_, ?_, ?_⟩
  · show IntKind.u64.wrap (((BitVec.ofInt 64 (a : Int)) &&& (BitVec.ofInt 64 (b : Int))).toNat : Int) = _
    rw [BitVec.toNat_and, hx a ha, hx b hb, e _ (Nat.and_lt_two_pow _ hb)]
  · show IntKind.u64.wrap (((BitVec.ofInt 64 (a : Int)) ||| (BitVec.ofInt 64 (b : Int))).toNat : Int) = _
    rw [BitVec.toNat_or, hx a ha, hx b hb, e _ (Nat.or_lt_two_pow ha hb)]
  · show IntKind.u64.wrap (((BitVec.ofInt 64 (a : Int)) ^^^ (BitVec.ofInt 64 (b : Int))).toNat : Int) = _
    rw [BitVec.toNat_xor, hx a ha, hx b hb, e _ (Nat.xor_lt_two_pow ha hb)]
theorem and_same {x y : Int} (hx : Wd x) (hy : Wd y) : Go.bits .and .u64 x y = Go.bits .and .u32 x y ∧ Wd (Go.bits .and .u32 x y) := by
  obtain ⟨a, ha, rfl⟩ := hx.nat; obtain ⟨b, hb, rfl⟩ := hy.nat
  rw [(bits64 .and a b (by omega) (by omega)).1, (bits32 .and a b ha hb).1]
  exact ⟨rfl, wd_nat (Nat.and_lt_two_pow _ hb)⟩
theorem or_same {x y : Int} (hx : Wd x) (hy : Wd y) : Go.bits .or .u64 x y = Go.bits .or .u32 x y ∧ Wd (Go.bits .or .u32 x y) := by
  obtain ⟨a, ha, rfl⟩ := hx.nat; obtain ⟨b, hb, rfl⟩ := hy.nat
  rw [(bits64 .and a b (by omega) (by omega)).2.1, (bits32 .and a b ha hb).2.1]
  exact ⟨rfl, wd_nat (Nat.or_lt_two_pow ha hb)⟩
theorem xor_same {x y : Int} (hx : Wd x) (hy : Wd y) : Go.bits .xor .u64 x y = Go.bits .xor .u32 x y ∧ Wd (Go.bits .xor .u32 x y) := by
  obtain ⟨a, ha, rfl⟩ := hx.nat; obtain ⟨b, hb, rfl⟩ := hy.nat
  rw [(bits64 .and a b (by omega) (by omega)).2.2, (bits32 .and a b ha hb).2.2]
  exact ⟨rfl, wd_nat (Nat.xor_lt_two_pow ha hb)⟩
/-- The last 32 bits. -/
theorem low_same {x : Int} (h0 : 0 ≤ x) (h1 : x < 18446744073709551616) : Go.bits .and .u64 x 4294967295 = x % 4294967296 := by
  obtain ⟨a, rfl⟩ : ∃ a : Nat, x = (a : Int) := ⟨x.toNat, by omega⟩
  have := (bits64 .and a 4294967295 (by omega) (by decide)).1
  rw [show ((4294967295 : Nat) : Int) = 4294967295 from rfl] at this
  rw [this, show (4294967295 : Nat) = 2 ^ 32 - 1 from rfl, Nat.and_two_pow_sub_one_eq_mod]
  rfl
theorem wd_mod (x : Int) : Wd (x % 4294967296) := ⟨by omega, by omega⟩
theorem iter_succ (f : Int → Int) : ∀ (n : Nat) (x : Int), iter f (n + 1) x = f (iter f n x)
  | 0, x => rfl
  | n + 1, x => by rw [iter, iter_succ f n (f x)]; rfl
/-- A word turned by n, as a number. -/
def rot (a n : Nat) : Nat := a / 2 ^ n + (a % 2 ^ n) * 2 ^ (32 - n)
theorem rot_lt {a n : Nat} (h : a < 2 ^ 32) (hn : n ≤ 32) : rot a n < 2 ^ 32 := by
  unfold rot
  have h1 : a / 2 ^ n < 2 ^ (32 - n) := by
    rw [Nat.div_lt_iff_lt_mul (Nat.two_pow_pos n), ← Nat.pow_add, Nat.sub_add_cancel hn]; exact h
  have h2 : a % 2 ^ n < 2 ^ n := Nat.mod_lt _ (Nat.two_pow_pos n)
  have h3 : (a % 2 ^ n + 1) * 2 ^ (32 - n) ≤ 2 ^ n * 2 ^ (32 - n) := Nat.mul_le_mul_right _ h2
  rw [← Nat.pow_add, Nat.add_sub_cancel' hn, Nat.add_mul, Nat.one_mul] at h3
  omega
theorem tstep_nat (a : Nat) (h : a < 2 ^ 32) : tstep (a : Int) = ((a / 2 + a % 2 * 2147483648 : Nat) : Int) := by
  unfold tstep
  have h1 : Int.tdiv (a : Int) 2 = ((a / 2 : Nat) : Int) := by rw [Int.tdiv_eq_ediv_of_nonneg (by omega)]; omega
  have h2 : Int.tmod (a : Int) 2 = ((a % 2 : Nat) : Int) := by rw [Int.tmod_eq_emod_of_nonneg (by omega)]; omega
  rw [h1, h2, wrap64u ((a / 2 : Nat) : Int) (by omega) (by omega), wrap64u (((a % 2 : Nat) : Int) * 2147483648) (by omega) (by omega), wrap64u _ (by omega) (by omega)]
  omega
theorem tr64_nat (a : Nat) (h : a < 2 ^ 32) : ∀ n : Nat, n ≤ 32 → tr64 (a : Int) (n : Int) = ((rot a n : Nat) : Int)
  | 0, _ => by simp [tr64, iter, rot, Nat.mod_one]
  | n + 1, hn => by
    have ih := tr64_nat a h n (by omega)
    have h1 : tr64 (a : Int) ((n + 1 : Nat) : Int) = tstep (tr64 (a : Int) (n : Int)) := by
      unfold tr64
      exact iter_succ tstep n (a : Int)
    rw [h1, ih, tstep_nat _ (rot_lt h (by omega))]
    congr 1
    unfold rot
    obtain ⟨m, hm⟩ : ∃ m, 32 - n = m + 1 := ⟨31 - n, by omega⟩
    have hm2 : 32 - (n + 1) = m := by omega
    have hp : (2147483648 : Nat) = 2 ^ n * 2 ^ m := by rw [← Nat.pow_add]; rw [show n + m = 31 by omega]
    rw [hm, hm2, Nat.pow_succ, Nat.pow_succ, ← Nat.div_div_eq_div_mul, Nat.mod_mul, hp]
    have e1 : a % 2 ^ n * (2 ^ m * 2) = (a % 2 ^ n * 2 ^ m) * 2 := (Nat.mul_assoc _ _ _).symm
    rw [e1, Nat.add_mul_div_right _ _ (by decide), Nat.add_mul_mod_self_right, Nat.add_mul]
    rw [Nat.mul_comm (2 ^ n) (a / 2 ^ n % 2), Nat.mul_assoc]
    omega
theorem trn_nat (a : Nat) (h : a < 2 ^ 32) (n : Nat) (hn : n ≤ 32) : trn (a : Int) (n : Int) = ((rot a n : Nat) : Int) := by
  unfold trn shr shl
  have h1 : IntKind.u64.wrap (32 - (n : Int)) = ((32 - n : Nat) : Int) := by rw [wrap64u _ (by omega) (by omega)]; omega
  have h2 : min ((n : Int)).toNat IntKind.u32.bits = n := by show min ((n : Int)).toNat 32 = n; omega
  have h3 : min (((32 - n : Nat) : Int)).toNat IntKind.u32.bits = 32 - n := by show min (((32 - n : Nat) : Int)).toNat 32 = 32 - n; omega
  rw [h1, h2, h3, wrap32u]
  have e1 : (a : Int) / 2 ^ n = ((a / 2 ^ n : Nat) : Int) := by push_cast; rfl
  have e2 : (a : Int) * 2 ^ (32 - n) % 4294967296 = ((2 ^ (32 - n) * (a % 2 ^ n) : Nat) : Int) := by
    have : ((a * 2 ^ (32 - n) % 4294967296 : Nat) : Int) = (a : Int) * 2 ^ (32 - n) % 4294967296 := by
      rw [show ((a * 2 ^ (32 - n) % 4294967296 : Nat) : Int) = ((a * 2 ^ (32 - n) : Nat) : Int) % 4294967296 from rfl, Int.natCast_mul, Int.natCast_pow]
      rfl
    rw [← this]
    congr 1
    rw [show (4294967296 : Nat) = 2 ^ n * 2 ^ (32 - n) by rw [← Nat.pow_add, Nat.add_sub_cancel' hn], Nat.mul_mod_mul_right, Nat.mul_comm]
  have hl : a / 2 ^ n < 2 ^ (32 - n) := by
    rw [Nat.div_lt_iff_lt_mul (Nat.two_pow_pos n), ← Nat.pow_add, Nat.sub_add_cancel hn]; exact h
  have hr := rot_lt h hn
  unfold rot at hr
  rw [Nat.mul_comm (a % 2 ^ n)] at hr
  rw [e1, e2, (bits32 .or _ _ (by omega) (by omega)).2.1]
  congr 1
  rw [Nat.or_comm, ← Nat.two_pow_add_eq_or_of_lt hl]
  unfold rot
  rw [Nat.mul_comm (a % 2 ^ n), Nat.add_comm]
theorem tr_same {x : Int} (hx : Wd x) (n : Nat) (hn : n ≤ 32) : tr64 x (n : Int) = trn x (n : Int) ∧ Wd (trn x (n : Int)) := by
  obtain ⟨a, ha, rfl⟩ := hx.nat
  rw [tr64_nat a ha n hn, trn_nat a ha n hn]
  exact ⟨rfl, wd_nat (rot_lt ha hn)⟩
theorem dn_same {x : Int} (hx : Wd x) (n : Nat) (hn : n ≤ 32) : dn64 x (n : Int) = shr .u32 x (n : Int) ∧ Wd (shr .u32 x (n : Int)) := by
  obtain ⟨a, ha, rfl⟩ := hx.nat
  have h2 : min ((n : Int)).toNat IntKind.u32.bits = n := by show min ((n : Int)).toNat 32 = n; omega
  have e1 : (a : Int) / 2 ^ n = ((a / 2 ^ n : Nat) : Int) := by push_cast; rfl
  have hs : shr .u32 (a : Int) (n : Int) = ((a / 2 ^ n : Nat) : Int) := by unfold shr; rw [h2, e1]
  rw [hs]
  refine ⟨?_, wd_nat (Nat.lt_of_le_of_lt (Nat.div_le_self _ _) ha)⟩
  have key : ∀ m : Nat, iter dstep m (a : Int) = ((a / 2 ^ m : Nat) : Int) := by
    intro m
    induction m with
    | zero => simp [iter]
    | succ m ih =>
      rw [iter_succ, ih]
      unfold dstep
      have hlt : a / 2 ^ m ≤ a := Nat.div_le_self _ _
      rw [Nat.pow_succ, ← Nat.div_div_eq_div_mul]
      generalize a / 2 ^ m = c at *
      rw [Int.tdiv_eq_ediv_of_nonneg (by omega), show ((c : Int) / 2) = ((c / 2 : Nat) : Int) by omega, wrap64u _ (by omega) (by omega)]
  unfold dn64
  exact key n
theorem sigA_same {x : Int} (h : Wd x) : sigA64 x = sigA x ∧ Wd (sigA x) := by
  have h1 : tr64 x 7 = trn x 7 ∧ Wd (trn x 7) := tr_same h 7 (by decide); have h2 : tr64 x 18 = trn x 18 ∧ Wd (trn x 18) := tr_same h 18 (by decide); have h3 : dn64 x 3 = shr .u32 x 3 ∧ Wd (shr .u32 x 3) := dn_same h 3 (by decide)
  have h4 := xor_same h1.2 h2.2; have h5 := xor_same h4.2 h3.2
  unfold sigA64 sigA
  refine ⟨?_, h5.2⟩
  rw [← h5.1, ← h4.1, ← h1.1, ← h2.1, ← h3.1]
theorem sigB_same {x : Int} (h : Wd x) : sigB64 x = sigB x ∧ Wd (sigB x) := by
  have h1 : tr64 x 17 = trn x 17 ∧ Wd (trn x 17) := tr_same h 17 (by decide); have h2 : tr64 x 19 = trn x 19 ∧ Wd (trn x 19) := tr_same h 19 (by decide); have h3 : dn64 x 10 = shr .u32 x 10 ∧ Wd (shr .u32 x 10) := dn_same h 10 (by decide)
  have h4 := xor_same h1.2 h2.2; have h5 := xor_same h4.2 h3.2
  unfold sigB64 sigB
  refine ⟨?_, h5.2⟩
  rw [← h5.1, ← h4.1, ← h1.1, ← h2.1, ← h3.1]
theorem sum_same {x : Int} (h : Wd x) : bSum x = rSum x ∧ Wd (rSum x) := by
  have h1 : tr64 x 6 = trn x 6 ∧ Wd (trn x 6) := tr_same h 6 (by decide); have h2 : tr64 x 11 = trn x 11 ∧ Wd (trn x 11) := tr_same h 11 (by decide); have h3 : tr64 x 25 = trn x 25 ∧ Wd (trn x 25) := tr_same h 25 (by decide)
  have h4 := xor_same h1.2 h2.2; have h5 := xor_same h4.2 h3.2
  unfold bSum rSum
  refine ⟨?_, h5.2⟩
  rw [← h5.1, ← h4.1, ← h1.1, ← h2.1, ← h3.1]
def rTw (x : Int) : Int := Go.bits .xor .u32 (Go.bits .xor .u32 (trn x 2) (trn x 13)) (trn x 22)
theorem two_same {x : Int} (h : Wd x) : bTwo x = rTw x ∧ Wd (rTw x) := by
  have h1 : tr64 x 2 = trn x 2 ∧ Wd (trn x 2) := tr_same h 2 (by decide); have h2 : tr64 x 13 = trn x 13 ∧ Wd (trn x 13) := tr_same h 13 (by decide); have h3 : tr64 x 22 = trn x 22 ∧ Wd (trn x 22) := tr_same h 22 (by decide)
  have h4 := xor_same h1.2 h2.2; have h5 := xor_same h4.2 h3.2
  unfold bTwo rTw
  refine ⟨?_, h5.2⟩
  rw [← h5.1, ← h4.1, ← h1.1, ← h2.1, ← h3.1]
theorem most_same {a b c : Int} (ha : Wd a) (hb : Wd b) (hc : Wd c) : bMost a b c = rMost a b c ∧ Wd (rMost a b c) := by
  have h1 := and_same ha hb; have h2 := and_same ha hc; have h3 := and_same hb hc
  have h4 := xor_same h1.2 h2.2; have h5 := xor_same h4.2 h3.2
  unfold bMost rMost
  refine ⟨?_, h5.2⟩
  rw [← h5.1, ← h4.1, ← h1.1, ← h2.1, ← h3.1]
theorem not_same {e : Int} (he : Wd e) : IntKind.u64.wrap (4294967295 - e) = Go.bits .xor .u32 IntKind.u32.max e ∧ Wd (Go.bits .xor .u32 IntKind.u32.max e) := by
  obtain ⟨a, ha, rfl⟩ := he.nat
  have hm : IntKind.u32.max = ((2 ^ 32 - 1 : Nat) : Int) := by decide
  rw [wrap64u _ (by omega) (by omega), hm, (bits32 .and _ _ (by decide) ha).2.2]
  have hx : (2 ^ 32 - 1) ^^^ a = 2 ^ 32 - 1 - a := by
    have h1 := congrArg BitVec.toNat (BitVec.allOnes_xor (x := BitVec.ofNat 32 a))
    rw [BitVec.toNat_xor, BitVec.toNat_not, BitVec.toNat_allOnes, BitVec.toNat_ofNat, Nat.mod_eq_of_lt ha] at h1
    exact h1
  rw [hx]
  exact ⟨by omega, wd_nat (by omega)⟩
theorem ch_same {e f g : Int} (he : Wd e) (hf : Wd f) (hg : Wd g) : bCh e f g = rCh e f g ∧ Wd (rCh e f g) := by
  have h0 := not_same he
  have h1 := and_same he hf; have h2 := and_same h0.2 hg; have h4 := xor_same h1.2 h2.2
  unfold bCh rCh
  refine ⟨?_, h4.2⟩
  rw [← h4.1, ← h1.1, ← h2.1, ← h0.1]
def AllWd (l : List Int) : Prop := ∀ x ∈ l, Wd x
theorem AllWd.get {l : List Int} (h : AllWd l) (i : Int) : Wd (rd l i) := by
  unfold rd
  rw [List.getD_eq_getElem?_getD]
  cases hq : l[i.toNat]? with
  | none => exact ⟨by decide, by decide⟩
  | some v => exact h v (List.mem_of_getElem? hq)
theorem AllWd.append {l m : List Int} (h : AllWd l) (h' : AllWd m) : AllWd (l ++ m) := fun x hx => (List.mem_append.1 hx).elim (h x) (h' x)
theorem rnd_same {k w : Int} (hk : Wd k) (hw : Wd w) {l : List Int} (h8 : l.length = 8) (hl : AllWd l) : brnd k w l = rnd k w l ∧ AllWd (rnd k w l) := by
  obtain ⟨a, b, c, d, e, f, g, h, rfl⟩ := eight_of h8
  have ha := hl a (by simp); have hb := hl b (by simp); have hc := hl c (by simp); have hd := hl d (by simp)
  have he := hl e (by simp); have hf := hl f (by simp); have hg := hl g (by simp); have hh := hl h (by simp)
  have s1 := sum_same he; have s2 := ch_same he hf hg; have s3 := two_same ha; have s4 := most_same ha hb hc
  constructor
  · simp only [brnd, rnd]
    have e1 : bFst e f g h k w a b c = (rOne e f g h k w + rTwo a b c) % 4294967296 := by
      unfold bFst rOne rTwo
      change _ = (_ + (rTw a + _)) % 4294967296
      rw [s1.1, s2.1, s3.1, s4.1]
      obtain ⟨q1, q2⟩ := s1.2; obtain ⟨q3, q4⟩ := s2.2; obtain ⟨q5, q6⟩ := s3.2; obtain ⟨q7, q8⟩ := s4.2
      obtain ⟨k1, k2⟩ := hk; obtain ⟨w1, w2⟩ := hw; obtain ⟨h1, h2⟩ := hh
      generalize rSum e = A at *; generalize rCh e f g = B at *; generalize rTw a = C at *; generalize rMost a b c = D at *
      rw [wrap64u (h + A) (by omega) (by omega), wrap64u (h + A + B) (by omega) (by omega), wrap64u (h + A + B + k) (by omega) (by omega), wrap64u (h + A + B + k + w) (by omega) (by omega), wrap64u (h + A + B + k + w + C) (by omega) (by omega), wrap64u _ (by omega) (by omega), low_same (by omega) (by omega), Int.add_assoc _ C D]
    have e2 : bMid e f g h k w d = (d + rOne e f g h k w) % 4294967296 := by
      unfold bMid rOne
      rw [s1.1, s2.1]
      obtain ⟨q1, q2⟩ := s1.2; obtain ⟨q3, q4⟩ := s2.2
      obtain ⟨k1, k2⟩ := hk; obtain ⟨w1, w2⟩ := hw; obtain ⟨h1, h2⟩ := hh; obtain ⟨d1, d2⟩ := hd
      generalize rSum e = A at *; generalize rCh e f g = B at *
      rw [wrap64u (h + A) (by omega) (by omega), wrap64u (h + A + B) (by omega) (by omega), wrap64u (h + A + B + k) (by omega) (by omega), wrap64u (h + A + B + k + w) (by omega) (by omega), wrap64u _ (by omega) (by omega), low_same (by omega) (by omega)]
    rw [e1, e2]
  · intro x hx
    simp only [rnd, List.mem_cons, List.not_mem_nil, or_false] at hx
    rcases hx with rfl | rfl | rfl | rfl | rfl | rfl | rfl | rfl
    · exact wd_mod _
    · exact ha
    · exact hb
    · exact hc
    · exact wd_mod _
    · exact he
    · exact hf
    · exact hg
theorem KK_wd : AllWd KK := by
  have h : (KK.all fun x => decide (0 ≤ x) && decide (x < 4294967296)) = true := by decide +kernel
  intro x hx
  have := List.all_eq_true.1 h x hx
  simp only [Bool.and_eq_true, decide_eq_true_eq] at this
  exact this
theorem rounds_same {ws st : List Int} (hw : AllWd ws) (h8 : st.length = 8) (hs : AllWd st) : ∀ i, brounds ws KK st i = rounds ws st i ∧ AllWd (rounds ws st i)
  | 0 => ⟨rfl, hs⟩
  | i + 1 => by
    have ih := rounds_same hw h8 hs i
    have := rnd_same (KK_wd.get i) (hw.get i) (rounds_len h8 i) ih.2
    rw [brounds, rounds, ih.1]
    exact this
theorem addN_same {st x : List Int} (hs : AllWd st) (hx : AllWd x) (i : Nat) : baddN st x i = addN st x i ∧ AllWd (addN st x i) := by
  constructor
  · unfold baddN addN badd
    congr 1
    apply List.map_congr_left
    intro j _
    have h1 := hs.get j; have h2 := hx.get j
    obtain ⟨p1, p2⟩ := h1; obtain ⟨p3, p4⟩ := h2
    rw [wrap64u _ (by omega) (by omega), low_same (by omega) (by omega)]
  · refine AllWd.append (fun y hy => ?_) (fun y hy => hs y (List.mem_of_mem_drop hy))
    obtain ⟨j, _, rfl⟩ := List.mem_map.1 hy
    exact wd_mod _
theorem byte_or (a b : Nat) (n : Nat) (hb : b < 2 ^ n) : 2 ^ n * a ||| b = 2 ^ n * a + b := (Nat.two_pow_add_eq_or_of_lt hb a).symm
theorem word_of (x y z u : Int) (hx : 0 ≤ x ∧ x < 256) (hy : 0 ≤ y ∧ y < 256) (hz : 0 ≤ z ∧ z < 256) (hu : 0 ≤ u ∧ u < 256) :
    Go.bits .or .u32 (Go.bits .or .u32 (Go.bits .or .u32 (IntKind.u32.wrap (IntKind.u32.wrap x * 16777216)) (IntKind.u32.wrap (IntKind.u32.wrap y * 65536))) (IntKind.u32.wrap (IntKind.u32.wrap z * 256))) (IntKind.u32.wrap u) = ((x * 256 + y) * 256 + z) * 256 + u := by
  obtain ⟨a, rfl⟩ : ∃ a : Nat, x = (a : Int) := ⟨x.toNat, by omega⟩
  obtain ⟨b, rfl⟩ : ∃ a : Nat, y = (a : Int) := ⟨y.toNat, by omega⟩
  obtain ⟨c, rfl⟩ : ∃ a : Nat, z = (a : Int) := ⟨z.toNat, by omega⟩
  obtain ⟨d, rfl⟩ : ∃ a : Nat, u = (a : Int) := ⟨u.toNat, by omega⟩
  simp only [wrap32u]
  have e1 : (a : Int) % 4294967296 * 16777216 % 4294967296 = ((2 ^ 24 * a : Nat) : Int) := by omega
  have e2 : (b : Int) % 4294967296 * 65536 % 4294967296 = ((2 ^ 16 * b : Nat) : Int) := by omega
  have e3 : (c : Int) % 4294967296 * 256 % 4294967296 = ((2 ^ 8 * c : Nat) : Int) := by omega
  have e4 : (d : Int) % 4294967296 = (d : Int) := by omega
  rw [e1, e2, e3, e4]
  have f1 : 2 ^ 24 * a ||| 2 ^ 16 * b = 2 ^ 24 * a + 2 ^ 16 * b := byte_or a _ 24 (by omega)
  have f2 : (2 ^ 24 * a + 2 ^ 16 * b) ||| 2 ^ 8 * c = 2 ^ 24 * a + 2 ^ 16 * b + 2 ^ 8 * c := by
    have := byte_or (2 ^ 8 * a + b) (2 ^ 8 * c) 16 (by omega)
    rw [show 2 ^ 16 * (2 ^ 8 * a + b) = 2 ^ 24 * a + 2 ^ 16 * b by omega] at this
    exact this
  have f3 : (2 ^ 24 * a + 2 ^ 16 * b + 2 ^ 8 * c) ||| d = 2 ^ 24 * a + 2 ^ 16 * b + 2 ^ 8 * c + d := by
    have := byte_or (2 ^ 16 * a + 2 ^ 8 * b + c) d 8 (by omega)
    rw [show 2 ^ 8 * (2 ^ 16 * a + 2 ^ 8 * b + c) = 2 ^ 24 * a + 2 ^ 16 * b + 2 ^ 8 * c by omega] at this
    exact this
  rw [(bits32 .or _ _ (by omega) (by omega)).2.1, f1, (bits32 .or _ _ (by omega) (by omega)).2.1, f2, (bits32 .or _ _ (by omega) (by omega)).2.1, f3]
  omega
def AllBy (l : List Int) : Prop := ∀ x ∈ l, 0 ≤ x ∧ x < 256
theorem AllBy.get {l : List Int} (h : AllBy l) (i : Int) : 0 ≤ rd l i ∧ rd l i < 256 := by
  unfold rd
  rw [List.getD_eq_getElem?_getD]
  cases hq : l[i.toNat]? with
  | none => exact ⟨by decide, by decide⟩
  | some v => exact h v (List.mem_of_getElem? hq)
theorem wordAt_is {b : List Int} (h : AllBy b) (i : Nat) : wordAt b i = ((rd b (4 * (i : Int)) * 256 + rd b (4 * (i : Int) + 1)) * 256 + rd b (4 * (i : Int) + 2)) * 256 + rd b (4 * (i : Int) + 3) ∧ Wd (wordAt b i) := by
  have e : wordAt b i = ((rd b (4 * (i : Int)) * 256 + rd b (4 * (i : Int) + 1)) * 256 + rd b (4 * (i : Int) + 2)) * 256 + rd b (4 * (i : Int) + 3) :=
    word_of _ _ _ _ (h.get _) (h.get _) (h.get _) (h.get _)
  refine ⟨e, ?_⟩
  rw [e]
  have h1 := h.get (4 * (i : Int)); have h2 := h.get (4 * (i : Int) + 1); have h3 := h.get (4 * (i : Int) + 2); have h4 := h.get (4 * (i : Int) + 3)
  exact ⟨by omega, by omega⟩
theorem sch_wd {b : List Int} (h : AllBy b) : ∀ n, AllWd (sch b n)
  | 0 => fun x hx => by
    obtain ⟨j, _, rfl⟩ := List.mem_map.1 hx
    exact (wordAt_is h j).2
  | n + 1 => (sch_wd h n).append (fun x hx => by
    rw [List.mem_singleton] at hx
    rw [hx]
    exact wd_mod _)
theorem rd_fill {l : List Int} {n : Nat} {i : Int} (h : i.toNat < l.length) : rd (fill l n) i = rd l i := by
  unfold rd fill
  rw [List.getD_eq_getElem?_getD, List.getD_eq_getElem?_getD, List.getElem?_append_left h]
theorem bsch_same {b : List Int} (h : AllBy b) : ∀ n, n ≤ 48 → bsch (fill (wordsAt b 16) 64) n = fill (sch b n) 64
  | 0, _ => rfl
  | n + 1, hn => by
    have ih := bsch_same h n (by omega)
    have hl := sch_len b n
    have hw := sch_wd h n
    rw [bsch, ih, sch]
    have he : bnxt (fill (sch b n) 64) (16 + n) = nxt (sch b n) := by
      unfold bnxt nxt bnx
      rw [hl]
      rw [rd_fill (by omega), rd_fill (by omega), rd_fill (by omega), rd_fill (by omega)]
      have s1 := sigA_same (hw.get (((16 + n : Nat) : Int) - 15)); have s2 := sigB_same (hw.get (((16 + n : Nat) : Int) - 2))
      rw [s1.1, s2.1]
      have p1 := s1.2; have p2 := s2.2; have p3 := hw.get (((16 + n : Nat) : Int) - 16); have p4 := hw.get (((16 + n : Nat) : Int) - 7)
      generalize sigA _ = A at *; generalize sigB _ = B at *
      generalize rd (sch b n) (((16 + n : Nat) : Int) - 16) = C at *; generalize rd (sch b n) (((16 + n : Nat) : Int) - 7) = D at *
      obtain ⟨p1, p1'⟩ := p1; obtain ⟨p2, p2'⟩ := p2; obtain ⟨p3, p3'⟩ := p3; obtain ⟨p4, p4'⟩ := p4
      rw [wrap64u (C + A) (by omega) (by omega), wrap64u (C + A + D) (by omega) (by omega), wrap64u _ (by omega) (by omega), low_same (by omega) (by omega)]
    rw [he]
    obtain ⟨m, hm⟩ : ∃ m, 64 - (sch b n).length = m + 1 := ⟨64 - (sch b n).length - 1, by omega⟩
    have h2 : 64 - (sch b n ++ [nxt (sch b n)]).length = m := by simp; omega
    unfold fill
    rw [hm, h2, List.replicate_succ, ← hl, List.set_append_right _ _ (by omega), Nat.sub_self]
    simp
/-- The document's block is the program's mix. -/
theorem block_same {st b : List Int} (h8 : st.length = 8) (hs : AllWd st) (hb : AllBy b) : blockL st (fill (wordsAt b 16) 64) KK = mixL st b ∧ AllWd (mixL st b) := by
  have h1 := bsch_same hb 48 (by decide)
  rw [fill_full (l := sch b 48) (by rw [sch_len])] at h1
  have h2 := rounds_same (sch_wd hb 48) h8 hs 64
  have h3 := addN_same hs h2.2 8
  unfold blockL mixL
  rw [h1, h2.1]
  exact h3
end Go.Proofs.YtgaekibompacnaaDoor.QD
