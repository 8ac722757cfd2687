/- DigestEnds: the sums of texts of each length around the ends of blocks are the document's. -/
import Derived.Test.YtgaekibompacnaaDoorQDCutsWalk
import Derived.Test.YtgaekibompacnaaDoorQDShaEnd
set_option linter.unusedVariables false
set_option linter.unusedSimpArgs false
namespace Go.Proofs.YtgaekibompacnaaDoor.QD
open Go.RowKit Go.Proofs.YtgaekibompacnaaDoorW.PrintWords Go.Proofs.YtgaekibompacnaaDoorW.PrintLast Go.Proofs.YtgaekibompacnaaDoorW.PrintMore
theorem placeN_is (a : Int) {m : Nat} (h1 : 1 ≤ m) (h2 : m < 1000000) : ∃ n : Nat, n < m ∧ touchstonelaw0_Place.f a (m : Int) = some (n : Int) := by
  have hm : (0 : Int) < (m : Int) := by omega
  have hlt := Int.tmod_lt_of_pos a hm
  have hge : -(m : Int) < Int.tmod a m := by
    have := Int.tmod_lt_of_pos (-a) hm
    rw [Int.neg_tmod] at this
    omega
  unfold touchstonelaw0_Place.f
  rw [if_neg (by omega), if_neg (by omega)]
  by_cases hn : Int.tmod a m < 0
  · rw [if_pos hn]
    refine ⟨(Int.tmod a m + m).toNat, by omega, ?_⟩
    rw [OctetMath.wrap64_id (by omega) (by omega)]
    congr 1
    omega
  · rw [if_neg hn]
    exact ⟨(Int.tmod a m).toNat, by omega, by congr 1; omega⟩
/-- The bytes of DigestEnds, the first i of n made. -/
def endsL (c : Int) (n : Nat) : Nat → List Int
  | 0 => List.replicate n 0
  | i + 1 => (endsL c n i).set i ((c + (i : Int)) % 256)
theorem endsL_len (c : Int) (n : Nat) : ∀ i, (endsL c n i).length = n
  | 0 => by simp [endsL]
  | i + 1 => by rw [endsL, List.length_set, endsL_len c n i]
theorem endsL_by (c : Int) (n : Nat) : ∀ i, AllBy (endsL c n i)
  | 0 => fun x hx => by rw [endsL, List.mem_replicate] at hx; rw [hx.2]; exact ⟨by decide, by decide⟩
  | i + 1 => fun x hx => by
    rw [endsL] at hx
    rcases List.mem_or_eq_of_mem_set hx with h | h
    · exact endsL_by c n i x h
    · rw [h]; exact ⟨by omega, by omega⟩
set_option maxRecDepth 100000 in
set_option maxHeartbeats 8000000 in
theorem touchstonelaw2_DigestEnds.walk (a0 a1 : Int) (w : World) (hk : Laid w) (w0 : (Lit.int .u8 a0).wf = true) (w1 : (Lit.int .i64 a1).wf = true) :
    Calls Tryd.prog 4 #[.int .u8 a0, .int .i64 a1] w fun en w' => en = .returned (.bool true) ∧ Below w.heap.size w w' := by
  have HLK := Aside0.mk hk
  have HK : Aside0 (∀ W : World, Below w.heap.size w W → Laid W) := ⟨fun W hW => hk.below hW⟩
  have HB := Aside0.mk (Below.refl w.heap.size w)
  obtain ⟨n, hn, hp⟩ := placeN_is a1 (m := 300) (by decide) (by decide)
  have HP : Aside0 (touchstonelaw0_Place.f a1 300 = some (n : Int)) := ⟨hp⟩
  have HN := Aside0.mk hn
  have hn0 : (0 : Int) ≤ (n : Int) := by omega
  have hnm : ((n : Int)).toNat * 1 ≤ 281474976710656 := by omega
  have hnm2 : (n : Int) ≤ 281474976710656 := by omega
  have HNL : Aside0 (∀ i, (endsL a0 n i).length = n) := ⟨endsL_len a0 n⟩
  clear hk w0 w1 hp hn
  go_enter Tryd.func4, Tryd.ntmps4
  go_wp2_with (first | (go_at_call 10; (with_reducible refine (begun_calls _ HLK.out).mono ?_); rintro en wz ⟨rfl, hb⟩; have HB' := Aside0.mk (below_step (by repeat (first | (with_reducible first | exact HB.out | apply below_alloc | apply pw_below_drewN | apply below_drew1) | exact HB.out)) hb); clear hb HB; have HB := HB'; clear HB') | (go_at_call 13; (with_reducible refine (touchstonelaw0_Place.calls a1 300 (n : Int) _ HP.out).mono ?_); rintro en w' ⟨rfl, ⟨nd, rfl⟩⟩) | ((with_reducible refine gate_dst (N := 11) rfl ?_); refine Kd.R_make (Kd.int .u8) _ 5 rfl (N := 11) rfl 22 _ _ rfl (n : Int) rfl rfl Tryd.underlying22 (.int .u8 0) 1 info5 rfl (by decide) (by omega) 0 (ok := fun _ => True) (okp := fun _ => True) rfl (fun _ hk => hk) trivial hn0 hnm (Below.refl _ _) (Nat.le_refl _) ?_; intro v11 w11 ho hb hg_ hnew_; clear hg_ hnew_; rw [Int.toNat_natCast] at ho; have HR0 : Aside0 (Kd.R (Kd.int .u8) 5 w11 w.heap.size (fun _ => True) v11 (endsL a0 n 0)) := ⟨Kd.R_lower ho (below_size (by repeat (first | (with_reducible first | exact HB.out | apply below_alloc | apply pw_below_drewN | apply below_drew1) | exact HB.out)))⟩; have HB' := Aside0.mk (below_step (by repeat (first | (with_reducible first | exact HB.out | apply below_alloc | apply pw_below_drewN | apply below_drew1) | exact HB.out)) hb); clear HB hb ho; have HB := HB'; clear HB'; obtain ⟨A5, c5, e5⟩ := Kd.R_slice HR0.out; rw [HNL.out] at e5; subst e5))
  go_loopw [6] (fun v6 wr => ∃ (i : Nat), i ≤ n ∧ v6 = .int .i64 (i : Int) ∧ Aside0 (Kd.R (Kd.int .u8) 5 wr w.heap.size (fun _ => True) (.slice A5 n c5) (endsL a0 n i)) ∧ Aside0 (Below w.heap.size w wr)) (fun v6 _ => n - (intOf v6).toNat)
  case atStart => exact ⟨0, Nat.zero_le _, rfl, HR0, HB⟩
  case round =>
    clear HR0 HB
    obtain ⟨i, hi, rfl, HR, HB⟩ := hrel
    by_cases hlt : i < n
    · have hil : decide ((i : Int) < (n : Int)) = true := by simp; omega
      have hil2 : decide (i < n) = true := decide_eq_true hlt
      obtain ⟨cc, hcc⟩ : ∃ c_, c_ = (a0 + (i : Int)) % 256 := ⟨_, rfl⟩
      have hp9 : (0 : Int) ≤ (i : Int) := by omega
      have hq9 : (i : Int) < ((n : Nat) : Int) := by omega
      obtain ⟨go, co, eo, gb, gl, cl, hG⟩ := Kd.R_form HR.out (by rw [HNL.out]; omega)
      injection eo with ea_ en_ ec_
      subst ea_
      clear en_ ec_ gl hG
      obtain ⟨hxc, hxf⟩ := Kd.R_celln 0 HR.out (i : Int) hp9 hq9
      have HPG : Aside0 (Kd.R (Kd.int .u8) 5 (wr.setCell ⟨go, i, none⟩ (.int .u8 cc)) w.heap.size (fun _ => True) (.slice (some ⟨go, 0, none⟩) n c5) (endsL a0 n (i + 1))) := ⟨by rw [show endsL a0 n (i + 1) = (endsL a0 n i).set i cc by rw [hcc]; rfl]; exact (Kd.R_putg HR.out (i : Int) cc).1⟩
      have HBG : Aside0 (Below w.heap.size w (wr.setCell ⟨go, i, none⟩ (.int .u8 cc))) := ⟨below_set HB.out gb⟩
      rw [Int.toNat_natCast] at hxc hxf
      have hc1 : IntKind.u8.wrap (a0 + (i : Int)) = cc := by rw [hcc]; simp [IntKind.wrap, IntKind.signed, IntKind.bits]
      have hc2 : (a0 + (i : Int)) % 256 = cc := hcc.symm
      have hc3 : (a0 + (i : Int) % 256) % 256 = cc := by omega
      have HLT := Aside0.mk hlt
      have HWR0 : Aside0 (wrap64 ((i : Int) + 1) = ((i + 1 : Nat) : Int)) := ⟨(OctetMath.wrap64_id (by have := HN.out; omega) (by have := HN.out; omega)).trans (by omega)⟩
      clear hlt hi gb hcc
      go_wp2
      go_roundw
      case rel => exact ⟨i + 1, HLT.out, by first | rfl | (rw [HWR0.out]) | (congr 1), HPG, HBG⟩
      case measure => first | (rw [HWR0.out]; exact Nat.sub_lt_sub_left HLT.out (Nat.lt_succ_self i)) | (exact Nat.sub_lt_sub_left HLT.out (Nat.lt_succ_self i))
    · have hil : decide ((i : Int) < (n : Int)) = false := by simp; omega
      have hil2 : decide (i < n) = false := decide_eq_false hlt
      obtain ⟨bl, hbl⟩ : ∃ b_, b_ = endsL a0 n i := ⟨_, rfl⟩
      have hbn : bl.length = n := by rw [hbl, HNL.out]
      have hrr := Kd.R_reads' HR.out
      rw [← hbl] at hrr
      have HC5 : Aside0 (Kd.C (Kd.int .u8) wr A5 bl.length bl) := ⟨by first | exact hrr.2.2 | (rw [hbn]; exact hrr.2.2)⟩
      have Hc5 : Aside0 (bl.length ≤ c5) := ⟨by first | exact hrr.2.1 | (rw [hbn]; exact hrr.2.1)⟩
      have HBY : Aside0 (AllBy bl) := ⟨by rw [hbl]; exact endsL_by a0 n i⟩
      have HL5 : Aside0 (bl.length ≤ 1000000) := ⟨by have := HN.out; omega⟩
      have HFE : Aside0 (([bl] : List (List Int)).flatten = bl) := ⟨by simp⟩
      have HFL : Aside0 (([bl] : List (List Int)).flatten.length ≤ 1000000) := ⟨by rw [HFE.out]; exact HL5.out⟩
      obtain ⟨sl, hsl⟩ : ∃ s_, s_ = shaL bl := ⟨_, rfl⟩
      have HS : Aside0 (shaL bl = sl) := ⟨hsl.symm⟩
      have hq32 : ∀ W : World, (binOp .eql 25 (.agg (octs sl)) (.agg (octs sl))).run Tryd.prog W = .ok (.bool true) W := fun W => eql_octs W sl (by rw [hsl]; exact shaL_len bl)
      clear hrr hbl hsl hlt hi
      subst hbn
      go_wp2_with (first | ((with_reducible refine gate_dst (N := 26) rfl ?_); refine Kd.N_lit (Kd.slice 5 (Kd.int .u8)) wr.heap.size 22 ?hg (N' := 26) ?hd (xs := ([bl] : List (List Int))) (inner := [.slice A5 bl.length c5]) (ok := fun _ => True) (okp := fun k_ => k_ < wr.heap.size) ?hr ?hp (fun _ _ => trivial) trivial (Below.refl _ _) (Nat.le_refl _) (by simp) ?_; (case hd => rfl); (case hg => rfl); (case hr => first | (go_simp; done) | (go_simp; rfl)); (case hp => exact Reps.one (fk_slice (Kd.C_F (Kd.heap_int _) HC5.out) Hc5.out) (Reps.none _ _)); intro v20 wl ho hb hg_ hnew_; have HC5' := Aside0.mk (Kd.C_below HC5.out hb); clear HC5; have HC5 := HC5'; clear HC5'; have HB' := Aside0.mk (below_step HB.out hb); clear HB hnew_ hg_; have HB := HB'; clear HB'; obtain ⟨A20, c20, e20⟩ := Kd.N_slice ho; change _ = Value.slice A20 1 c20 at e20; subst e20; have hrr := Kd.N_reads' ho; have HC20 := Aside0.mk hrr.2.2; have Hc20 := Aside0.mk hrr.2.1; clear hb ho hrr) | (go_at_call 11; refine (sum_calls A20 c20 [bl] _ (HK.out _ HB.out) HC20.out Hc20.out (by simp) HFL.out).mono ?_; rintro en ws ⟨rfl, hb⟩; rw [HFE.out, HS.out]; have HC5' := Aside0.mk (Kd.C_below HC5.out hb); clear HC5; have HC5 := HC5'; clear HC5'; have HB' := Aside0.mk (below_step (by repeat (first | (with_reducible first | exact HB.out | apply below_alloc | apply pw_below_drewN | apply below_drew1) | exact HB.out)) hb); clear hb HB; have HB := HB'; clear HB') | (go_at_call 14; (with_reducible refine (one_calls A5 c5 bl _ HC5.out Hc5.out HL5.out HBY.out).mono ?_); rintro en wt ⟨rfl, hb⟩; rw [one_is HBY.out, HS.out]; have HB' := Aside0.mk (below_step (by repeat (first | (with_reducible first | exact HB.out | apply below_alloc | apply pw_below_drewN | apply below_drew1) | exact HB.out)) hb); clear hb HB; have HB := HB'; clear HB'))
      go_ret
      exact ⟨rfl, (by repeat (first | (with_reducible first | exact HB.out | apply below_alloc | apply pw_below_drewN | apply below_drew1) | exact HB.out))⟩
end Go.Proofs.YtgaekibompacnaaDoor.QD
