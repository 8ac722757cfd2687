/- The walk of OctetReads: what the calls answer is compared; the twin is as it was. -/
import Derived.Test.YtaoapdcdnjmoiaaQWx1
import Derived.Test.YtaoapdcdnjmoiaaQWx2
import Derived.Test.YtaoapdcdnjmoiaaXTwin
import Derived.Test.YtaoapdcdnjmoiaaQWOctetPure2
import Derived.Test.YtaoapdcdnjmoiaaQWOctetBegun
import Derived.Test.YtaoapdcdnjmoiaaQWRefPure2
import Derived.Outline
set_option linter.unusedVariables false
set_option linter.unusedSimpArgs false
namespace Go.Proofs.Ytaoapdcdnjmoiaa.QW
open Go.RowKit Go.Proofs.YtaoapdcdnjmoiaaW.PrintWords Go.Proofs.YtaoapdcdnjmoiaaW.PrintLast Go.Proofs.YtaoapdcdnjmoiaaW.PrintMore Go.Proofs.Ytaoapdcdnjmoiaa.OctetMath Go.Proofs.Ytaoapdcdnjmoiaa.XTwin

theorem reads_walk (A0 : Option Addr) (c0 : Nat) (l0 : List Int) (most : Int) (w : World) (hr0 : Kd.C (Kd.int .u8) w A0 l0.length l0) (hc0 : l0.length ≤ c0) (hb : Bytes l0) (h65 : l0.length ≤ 65536)
    (v n e : Int) (s : List Int) (i f : Int) (x k : Int)
    (h1 : octet_TakeVar.f 40 l0 = some (v, n, e)) (h2 : touchstoneref1_TakeVar.f 40 l0 = some (v, n, e)) (h3 : octet_TakeText.f 40 l0 most = some (s, i, f)) (h4 : touchstoneref1_TakeText.f 40 l0 most = some (s, i, f))
    (h5 : octet_TakeEight.f 40 l0 = some (x, k)) (h6 : touchstoneref1_TakeEight.f 40 l0 = some (x, k)) :
    Calls Try.prog 6 #[.slice A0 l0.length c0, .int .i64 most] w fun e w' => e = .returned (.bool true) ∧ Below w.heap.size w w' := by
  have H0 := Aside0.mk (begun_is (k := 40) (by omega))
  have H1 := Aside0.mk h1
  have H2 := Aside0.mk h2
  have H3 := Aside0.mk h3
  have H4 := Aside0.mk h4
  have H5 := Aside0.mk h5
  have H6 := Aside0.mk h6
  have HR := Aside0.mk hr0
  have HC := Aside0.mk hc0
  have HL : Aside0 (l0.length ≤ 140737488351232) := ⟨by omega⟩
  have HB := Aside0.mk (Below.refl w.heap.size w)
  have hlen : decide (65536 < (l0.length : Int)) = false := by simp; omega
  have hlen2 : decide (65536 < l0.length) = false := by simp; omega
  clear h1 h2 h3 h4 h5 h6 hr0 hc0
  go_enter Try.func6, Try.ntmps6
  go_wp2_with (first
    | (go_at_call 10; refine (touchstonelaw1_begun.calls 40 true _ H0.out).mono ?_; rintro e wl1 ⟨rfl, hb⟩; have HB' := Aside0.mk (below_step (by repeat (first | exact HB.out | apply below_alloc | apply pw_below_drewN | apply below_drew1)) hb); clear hb HB; have HB := HB'; clear HB')
    | (go_at_call 12; refine (twin_calls A0 c0 l0 _ ?s1 HC.out HL.out).mono ?_; (case s1 => exact Kd.C_below HR.out HB.out); rintro e wl2 ⟨g, rfl, ht, hge, hb⟩; have HB' := Aside0.mk (below_step (by repeat (first | exact HB.out | apply below_alloc | apply pw_below_drewN | apply below_drew1)) hb); clear hb HB; have HB := HB'; clear HB'; have HT := Aside0.mk ht; clear ht hge)
    | (go_at_call 20; refine (octet_TakeVar.calls 40 _ _ l0 v n e _ ?s1 ?s2 H1.out).mono ?_; (case s1 => exact twin_reads (by repeat (first | exact HT.out | refine blk_drewN ?_ _ | refine blk_drew ?_ | refine blk_alloc ?_ _)) HL.out); (case s2 => exact Nat.le_add_right _ _); rintro e w' ⟨rfl, ⟨nd, rfl⟩⟩)
    | (go_at_call 22; refine (touchstoneref1_TakeVar.calls 40 _ _ l0 v n e _ ?s1 ?s2 H2.out).mono ?_; (case s1 => exact Kd.C_below HR.out (by repeat (first | exact HB.out | apply below_alloc | apply pw_below_drewN | apply below_drew1))); (case s2 => exact HC.out); rintro e w' ⟨rfl, ⟨nd, rfl⟩⟩)
    | (go_at_call 21; refine (octet_TakeText.calls 40 _ _ l0 most s i f _ ?s1 ?s2 H3.out).mono ?_; (case s1 => exact twin_reads (by repeat (first | exact HT.out | refine blk_drewN ?_ _ | refine blk_drew ?_ | refine blk_alloc ?_ _)) HL.out); (case s2 => exact Nat.le_add_right _ _); rintro e wl3 ⟨vs, rfl, ho, hb⟩; have HNE := Aside0.mk (fun e_ : some g = vs.ownBlock => Nat.not_lt.mpr (Kd.R_base ho g e_.symm) (blk_lt (by repeat (first | exact HT.out | refine blk_drewN ?_ _ | refine blk_drew ?_ | refine blk_alloc ?_ _)))); have ho2 := Kd.R_lower ho (below_size (by repeat (first | exact HB.out | apply below_alloc | apply pw_below_drewN | apply below_drew1))); clear ho; have HB' := Aside0.mk (below_step (by repeat (first | exact HB.out | apply below_alloc | apply pw_below_drewN | apply below_drew1)) hb); have HT' := Aside0.mk (blk_below (by repeat (first | exact HT.out | refine blk_drewN ?_ _ | refine blk_drew ?_ | refine blk_alloc ?_ _)) hb); clear hb HB HT; have HB := HB'; have HT := HT'; clear HB' HT'; have HS := Aside0.mk ho2; clear ho2)
    | (go_at_call 23; refine (touchstoneref1_TakeText.calls 40 _ _ l0 most s i f _ ?s1 ?s2 H4.out).mono ?_; (case s1 => exact Kd.C_below HR.out (by repeat (first | exact HB.out | apply below_alloc | apply pw_below_drewN | apply below_drew1))); (case s2 => exact HC.out); rintro e wl4 ⟨vu, rfl, ho, hb⟩; have HB' := Aside0.mk (below_step (by repeat (first | exact HB.out | apply below_alloc | apply pw_below_drewN | apply below_drew1)) hb); have HT' := Aside0.mk (blk_below (by repeat (first | exact HT.out | refine blk_drewN ?_ _ | refine blk_drew ?_ | refine blk_alloc ?_ _)) hb); have HS' := Aside0.mk (Kd.R_below (by (with_reducible repeat (first | apply Kd.R_alloc | apply Kd.R_drewN | apply Kd.R_drew)); exact HS.out) hb); clear hb HB HT HS; have HB := HB'; have HT := HT'; have HS := HS'; clear HB' HT' HS'; have HU := Aside0.mk ho; clear ho; have hcHS := own_string (P := Try.prog) Try.underlying24 Try.underlying5 Try.underlying9 (Kd.own_of_R HS.out); have hdHS := fun m_ : Nat => own_string (P := Try.prog) Try.underlying24 Try.underlying5 Try.underlying9 (Kd.own_of_R (Kd.R_drewN HS.out m_)); have hcHU := own_string (P := Try.prog) Try.underlying24 Try.underlying5 Try.underlying9 (Kd.own_of_R HU.out); have hdHU := fun m_ : Nat => own_string (P := Try.prog) Try.underlying24 Try.underlying5 Try.underlying9 (Kd.own_of_R (Kd.R_drewN HU.out m_)))
    | (go_at_call 24; refine (octet_TakeEight.calls 40 _ _ l0 x k _ ?s1 ?s2 H5.out).mono ?_; (case s1 => exact twin_reads (by repeat (first | exact HT.out | refine blk_drewN ?_ _ | refine blk_drew ?_ | refine blk_alloc ?_ _)) HL.out); (case s2 => exact Nat.le_add_right _ _); rintro e w' ⟨rfl, ⟨nd, rfl⟩⟩)
    | (go_at_call 25; refine (touchstoneref1_TakeEight.calls 40 _ _ l0 x k _ ?s1 ?s2 H6.out).mono ?_; (case s1 => exact Kd.C_below HR.out (by repeat (first | exact HB.out | apply below_alloc | apply pw_below_drewN | apply below_drew1))); (case s2 => exact HC.out); rintro e w' ⟨rfl, ⟨nd, rfl⟩⟩)
    | (go_at_call 18; refine (kept_calls g A0 c0 l0 _ ?s1 ?s2 HC.out HL.out).mono ?_; (case s1 => exact (by repeat (first | exact HT.out | refine blk_drewN ?_ _ | refine blk_drew ?_ | refine blk_alloc ?_ _))); (case s2 => exact Kd.C_below HR.out (by repeat (first | exact HB.out | apply below_alloc | apply pw_below_drewN | apply below_drew1))); rintro e w' ⟨rfl, ⟨nd, rfl⟩⟩)
    | (go_at_call 19; refine (spoil_calls w.heap.size (fun _ => True) vs s _ ?s1).mono ?_; (case s1 => exact (by (with_reducible repeat (first | apply Kd.R_alloc | apply Kd.R_drewN | apply Kd.R_drew)); exact HS.out)); rintro e w9 ⟨rfl, hsz, hb, hk⟩; have HB' := Aside0.mk (Below.trans (by repeat (first | exact HB.out | apply below_alloc | apply pw_below_drewN | apply below_drew1)) hb); have HT' : Aside0 (w9.heap[g]? = some (.cells (nums .u8 (twin l0)).toArray 5 (0, 0))) := ⟨(hk g HNE.out (blk_lt (by repeat (first | exact HT.out | refine blk_drewN ?_ _ | refine blk_drew ?_ | refine blk_alloc ?_ _)))).trans (by repeat (first | exact HT.out | refine blk_drewN ?_ _ | refine blk_drew ?_ | refine blk_alloc ?_ _))⟩; clear hb hk hsz HB HT; have HB := HB'; have HT := HT'; clear HB' HT'))
  go_ret
  exact ⟨rfl, (by repeat (first | exact HB.out | apply below_alloc | apply pw_below_drewN | apply below_drew1))⟩
theorem reads_big (A0 : Option Addr) (c0 : Nat) (l0 : List Int) (most : Int) (w : World) (h65 : ¬ l0.length ≤ 65536) (hm : l0.length ≤ 140737488351232) :
    Calls Try.prog 6 #[.slice A0 l0.length c0, .int .i64 most] w fun e w' => e = .returned (.bool true) ∧ Below w.heap.size w w' := by
  have H0 := Aside0.mk (begun_is (k := 40) (by omega))
  have HB := Aside0.mk (Below.refl w.heap.size w)
  have hlen : decide (65536 < (l0.length : Int)) = true := by simp; omega
  have hlen2 : decide (65536 < l0.length) = true := by simp; omega
  clear h65
  go_enter Try.func6, Try.ntmps6
  go_wp2_with (first
    | (go_at_call 10; refine (touchstonelaw1_begun.calls 40 true _ H0.out).mono ?_; rintro e wl1 ⟨rfl, hb⟩; have HB' := Aside0.mk (below_step HB.out hb); clear hb HB; have HB := HB'; clear HB'))
  go_ret
  exact ⟨rfl, HB.out⟩
theorem touchstonelaw1_OctetReads.walk (_P : True) (A0 : Option Addr) (c0 : Nat) (l0 : List Int) (a1 : Int) (w : World) (hC0 : Kd.C (Kd.int .u8) w A0 l0.length l0) (hc0 : l0.length ≤ c0) (hW0 : l0.length * 1 ≤ 140737488351232 ∧ l0.length ≤ maxLen ∧ ∀ x ∈ l0, (Lit.int .u8 x).wf = true) (w1 : (Lit.int .i64 a1).wf = true) :
    Calls Try.prog 6 #[.slice A0 l0.length c0, .int .i64 a1] w fun e w' => e = .returned (.bool true) ∧ Below w.heap.size w w' := by
  have hb := Bytes.of_wf hW0.2.2
  have ha : -9223372036854775808 ≤ a1 ∧ a1 ≤ 9223372036854775807 := by
    simp [Lit.wf, IntKind.min, IntKind.max, IntKind.bits, IntKind.signed] at w1
    omega
  by_cases h : l0.length ≤ 65536
  · obtain ⟨⟨v, n, e⟩, h1⟩ : ∃ p, tk l0 0 0 = p := ⟨_, rfl⟩
    obtain ⟨⟨s, i, f⟩, h2⟩ : ∃ p, tkText l0 a1 = p := ⟨_, rfl⟩
    obtain ⟨⟨x, k⟩, h3⟩ : ∃ p, (if l0.length < 8 then ((0, 2) : Int × Int) else (back8 (l0.take 8), 0)) = p := ⟨_, rfl⟩
    exact reads_walk A0 c0 l0 a1 w hC0 hc0 hb h v n e s i f x k (by rw [takeVar_is (by omega) hb (by omega), h1]) (by rw [refTakeVar_is (by omega) hb (by omega), h1]) (by rw [takeText_is (by omega) hb (by omega) ha.1 ha.2, h2]) (by rw [refTakeText_is (by omega) hb (by omega) ha.1 ha.2, h2]) (by rw [takeEight_is (by omega) hb, h3]) (by rw [refTakeEight_is (by omega) hb, h3])
  · exact reads_big A0 c0 l0 a1 w h (by omega)
end Go.Proofs.Ytaoapdcdnjmoiaa.QW
