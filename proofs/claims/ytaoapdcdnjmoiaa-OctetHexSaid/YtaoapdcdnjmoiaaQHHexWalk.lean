/- The walk of OctetHex: Hex shows what the document's answer shows, Unhex reads what it reads, and Hex's text back. -/
import Derived.Test.YtaoapdcdnjmoiaaQHx1
import Derived.Test.YtaoapdcdnjmoiaaQHx2
import Derived.Test.YtaoapdcdnjmoiaaXTwin
import Derived.Test.YtaoapdcdnjmoiaaRefHex
import Derived.Test.YtaoapdcdnjmoiaaQHHexPure
import Derived.Test.YtaoapdcdnjmoiaaQHOctetBegun
import Derived.Outline
import Derived.BigQuiet
import Derived.Deep.QuietTactic
set_option linter.unusedVariables false
set_option linter.unusedSimpArgs false
namespace Go.Proofs.Ytaoapdcdnjmoiaa.QH
open Go.RowKit Go.Proofs.YtaoapdcdnjmoiaaW.PrintWords Go.Proofs.YtaoapdcdnjmoiaaW.PrintLast Go.Proofs.YtaoapdcdnjmoiaaW.PrintMore Go.Proofs.Ytaoapdcdnjmoiaa.OctetMath Go.Proofs.Ytaoapdcdnjmoiaa.XTwin Go.Proofs.Ytaoapdcdnjmoiaa.RefHex

theorem hex_walk (A0 : Option Addr) (c0 : Nat) (l0 : List Int) (a1 : ByteArray) (w : World) (hr0 : Kd.C (Kd.int .u8) w A0 l0.length l0) (hc0 : l0.length ≤ c0) (hby : Bytes l0) (h65 : l0.length ≤ 1000) (hs : a1.size ≤ 1000)
    (k : Nat) (x : List Int) (e : Int) (h1 : octet_Hex.f k l0 = some (strOfNums (hexL l0))) (h2 : octet_Unhex.f k a1 = some (x, e)) (h3 : touchstoneref1_Unhex.f k a1 = some (x, e)) (h4 : octet_Unhex.f k (strOfNums (hexL l0)) = some (l0, 0)) :
    Calls Try.prog 7 #[.slice A0 l0.length c0, .string a1] w fun e w' => e = .returned (.bool true) ∧ Below w.heap.size w w' := by
  have H0 := Aside0.mk (begun_is (k := 40) (by omega))
  have H1 := Aside0.mk h1
  have H2 := Aside0.mk h2
  have H3 := Aside0.mk h3
  have H4 := Aside0.mk h4
  have HR := Aside0.mk hr0
  have HC := Aside0.mk hc0
  have HY := Aside0.mk hby
  have HL : Aside0 (l0.length ≤ 140737488351232) := ⟨by omega⟩
  have HL2 : Aside0 (l0.length ≤ 70368744177600) := ⟨by omega⟩
  have HB := Aside0.mk (Below.refl w.heap.size w)
  have hlen : decide (1000 < (l0.length : Int)) = false := by simp; omega
  have hlen2 : decide (1000 < l0.length) = false := by simp; omega
  have hlen3 : decide (1000 < (a1.size : Int)) = false := by simp; omega
  have hlen4 : decide (1000 < a1.size) = false := by simp; omega
  clear h1 h2 h3 h4 hr0 hc0 hby
  go_enter Try.func7, Try.ntmps7
  go_wp2_with (first
    | (go_at_call 10; refine (touchstonelaw1_begun.calls 40 true _ H0.out).mono ?_; rintro e wl1 ⟨rfl, hb⟩; have HB' := Aside0.mk (below_step (by repeat (first | exact HB.out | apply below_alloc | apply pw_below_drewN | apply below_drew1)) hb); clear hb HB; have HB := HB'; clear HB')
    | (go_at_call 12; refine (twin_calls A0 c0 l0 _ ?s1 HC.out HL.out).mono ?_; (case s1 => exact Kd.C_below HR.out HB.out); rintro e wl2 ⟨g, rfl, ht, hge, hb⟩; have HB' := Aside0.mk (below_step (by repeat (first | exact HB.out | apply below_alloc | apply pw_below_drewN | apply below_drew1)) hb); clear hb HB; have HB := HB'; clear HB'; have HT := Aside0.mk ht; clear ht hge)
    | (go_at_call 26; refine (octet_Hex.calls k _ _ l0 (strOfNums (hexL l0)) _ ?s1 ?s2 H1.out).mono ?_; (case s1 => exact twin_reads (by repeat (first | exact HT.out | refine blk_drewN ?_ _ | refine blk_drew ?_ | refine blk_alloc ?_ _)) HL.out); (case s2 => exact Nat.le_add_right _ _); rintro e wl3 ⟨rfl, hb⟩; have HB' := Aside0.mk (below_step (by repeat (first | exact HB.out | apply below_alloc | apply pw_below_drewN | apply below_drew1)) hb); have HT' := Aside0.mk (blk_below (by repeat (first | exact HT.out | refine blk_drewN ?_ _ | refine blk_drew ?_ | refine blk_alloc ?_ _)) hb); clear hb HB HT; have HB := HB'; have HT := HT'; clear HB' HT')
    | ((with_reducible refine gate_callee (f := 27) rfl ?_); refine goesL_ (some 29) rfl rfl Try.func27 (by kernel_rfl) rfl #[.string a1] rfl (by (try simp only [List.map_toArray, List.map_cons, List.map_nil]); first | done | rfl) ?_; (with_reducible refine (octet_Unhex.calls k a1 x e _ H2.out).mono ?_); rintro e wl4 ⟨v1, rfl, ho, hb⟩; refine ⟨_, rfl, ?_⟩; have HB' := Aside0.mk (below_step (by repeat (first | exact HB.out | apply below_alloc | apply pw_below_drewN | apply below_drew1)) hb); have HT' := Aside0.mk (blk_below (by repeat (first | exact HT.out | refine blk_drewN ?_ _ | refine blk_drew ?_ | refine blk_alloc ?_ _)) hb); clear hb HB HT; have HB := HB'; have HT := HT'; clear HB' HT'; have HX := Aside0.mk ho; clear ho)
    | (go_at_call 28; refine (touchstoneref1_Unhex.calls k a1 x e _ H3.out).mono ?_; rintro e wl5 ⟨v2, rfl, ho, hb⟩; have HB' := Aside0.mk (below_step (by repeat (first | exact HB.out | apply below_alloc | apply pw_below_drewN | apply below_drew1)) hb); have HT' := Aside0.mk (blk_below (by repeat (first | exact HT.out | refine blk_drewN ?_ _ | refine blk_drew ?_ | refine blk_alloc ?_ _)) hb); have HX' := Aside0.mk (Kd.R_below (by (with_reducible repeat (first | apply Kd.R_alloc | apply Kd.R_drewN | apply Kd.R_drew)); exact HX.out) hb); clear hb HB HT HX; have HB := HB'; have HT := HT'; have HX := HX'; clear HB' HT' HX'; have HU := Aside0.mk ho; clear ho)
    | ((with_reducible refine gate_callee (f := 27) rfl ?_); refine goesL_ (some 39) rfl rfl Try.func27 (by kernel_rfl) rfl #[.string (strOfNums (hexL l0))] rfl (by (try simp only [List.map_toArray, List.map_cons, List.map_nil]); first | done | rfl) ?_; (with_reducible refine (octet_Unhex.calls k (strOfNums (hexL l0)) l0 0 _ H4.out).mono ?_); rintro e wl6 ⟨v3, rfl, ho, hb⟩; refine ⟨_, rfl, ?_⟩; have HB' := Aside0.mk (below_step (by repeat (first | exact HB.out | apply below_alloc | apply pw_below_drewN | apply below_drew1)) hb); have HT' := Aside0.mk (blk_below (by repeat (first | exact HT.out | refine blk_drewN ?_ _ | refine blk_drew ?_ | refine blk_alloc ?_ _)) hb); have HX' := Aside0.mk (Kd.R_below (by (with_reducible repeat (first | apply Kd.R_alloc | apply Kd.R_drewN | apply Kd.R_drew)); exact HX.out) hb); have HU' := Aside0.mk (Kd.R_below (by (with_reducible repeat (first | apply Kd.R_alloc | apply Kd.R_drewN | apply Kd.R_drew)); exact HU.out) hb); clear hb HB HT HX HU; have HB := HB'; have HT := HT'; have HX := HX'; have HU := HU'; clear HB' HT' HX' HU'; have HZ := Aside0.mk ho; clear ho; have hcHX := own_string (P := Try.prog) Try.underlying24 Try.underlying5 Try.underlying9 (Kd.own_of_R HX.out); have hdHX := fun m_ : Nat => own_string (P := Try.prog) Try.underlying24 Try.underlying5 Try.underlying9 (Kd.own_of_R (Kd.R_drewN HX.out m_)); have hcHU := own_string (P := Try.prog) Try.underlying24 Try.underlying5 Try.underlying9 (Kd.own_of_R HU.out); have hdHU := fun m_ : Nat => own_string (P := Try.prog) Try.underlying24 Try.underlying5 Try.underlying9 (Kd.own_of_R (Kd.R_drewN HU.out m_)); have hcHZ := own_string (P := Try.prog) Try.underlying24 Try.underlying5 Try.underlying9 (Kd.own_of_R HZ.out); have hdHZ := fun m_ : Nat => own_string (P := Try.prog) Try.underlying24 Try.underlying5 Try.underlying9 (Kd.own_of_R (Kd.R_drewN HZ.out m_)); have hcb := fun m_ : Nat => Kd.C_string (P := Try.prog) (A := A0) (c := c0) Try.underlying24 Try.underlying5 Try.underlying9 (Kd.C_drewN (Kd.C_below HR.out HB.out) m_); have hcb0 := Kd.C_string (P := Try.prog) (A := A0) (c := c0) Try.underlying24 Try.underlying5 Try.underlying9 (Kd.C_below HR.out HB.out))
    | (go_at_call 29; refine (refHex_calls A0 c0 l0 _ ?s1 HC.out HY.out HL2.out).mono ?_; (case s1 => exact Kd.C_below HR.out (by repeat (first | exact HB.out | apply below_alloc | apply pw_below_drewN | apply below_drew1))); rintro e w' ⟨rfl, ⟨nd, rfl⟩⟩)
    | (go_at_call 18; refine (kept_calls g A0 c0 l0 _ ?s1 ?s2 HC.out HL.out).mono ?_; (case s1 => exact (by repeat (first | exact HT.out | refine blk_drewN ?_ _ | refine blk_drew ?_ | refine blk_alloc ?_ _))); (case s2 => exact Kd.C_below HR.out (by repeat (first | exact HB.out | apply below_alloc | apply pw_below_drewN | apply below_drew1))); rintro e w' ⟨rfl, ⟨nd, rfl⟩⟩))
  go_ret
  exact ⟨rfl, (by repeat (first | exact HB.out | apply below_alloc | apply pw_below_drewN | apply below_drew1))⟩
theorem hex_big (A0 : Option Addr) (c0 : Nat) (l0 : List Int) (a1 : ByteArray) (w : World) (h65 : ¬ l0.length ≤ 1000 ∨ l0.length ≤ 1000 ∧ ¬ a1.size ≤ 1000) (hm : l0.length ≤ 140737488351232) (hs : a1.size ≤ 140737488351232) :
    Calls Try.prog 7 #[.slice A0 l0.length c0, .string a1] w fun e w' => e = .returned (.bool true) ∧ Below w.heap.size w w' := by
  have H0 := Aside0.mk (begun_is (k := 40) (by omega))
  have HB := Aside0.mk (Below.refl w.heap.size w)
  rcases h65 with h | ⟨h, h'⟩
  · have hlen : decide (1000 < (l0.length : Int)) = true := by simp; omega
    have hlen2 : decide (1000 < l0.length) = true := by simp; omega
    clear h
    go_enter Try.func7, Try.ntmps7
    go_wp2_with (first
      | (go_at_call 10; refine (touchstonelaw1_begun.calls 40 true _ H0.out).mono ?_; rintro e wl1 ⟨rfl, hb⟩; have HB' := Aside0.mk (below_step HB.out hb); clear hb HB; have HB := HB'; clear HB'))
    go_ret
    exact ⟨rfl, HB.out⟩
  · have hlen : decide (1000 < (l0.length : Int)) = false := by simp; omega
    have hlen2 : decide (1000 < l0.length) = false := by simp; omega
    have hlen3 : decide (1000 < (a1.size : Int)) = true := by simp; omega
    have hlen4 : decide (1000 < a1.size) = true := by simp; omega
    clear h h'
    go_enter Try.func7, Try.ntmps7
    go_wp2_with (first
      | (go_at_call 10; refine (touchstonelaw1_begun.calls 40 true _ H0.out).mono ?_; rintro e wl1 ⟨rfl, hb⟩; have HB' := Aside0.mk (below_step HB.out hb); clear hb HB; have HB := HB'; clear HB'))
    go_ret
    exact ⟨rfl, HB.out⟩
theorem touchstonelaw1_OctetHex.walk (_P : True) (A0 : Option Addr) (c0 : Nat) (l0 : List Int) (a1 : ByteArray) (w : World) (hC0 : Kd.C (Kd.int .u8) w A0 l0.length l0) (hc0 : l0.length ≤ c0) (hW0 : l0.length * 1 ≤ 140737488351232 ∧ l0.length ≤ maxLen ∧ ∀ x ∈ l0, (Lit.int .u8 x).wf = true) (w1 : a1.size ≤ 140737488351232) :
    Calls Try.prog 7 #[.slice A0 l0.length c0, .string a1] w fun e w' => e = .returned (.bool true) ∧ Below w.heap.size w w' := by
  have hb := Bytes.of_wf hW0.2.2
  by_cases h : l0.length ≤ 1000
  · by_cases h' : a1.size ≤ 1000
    · obtain ⟨⟨x, e⟩, h1⟩ : ∃ p, unhex a1 = p := ⟨_, rfl⟩
      have hsz : (strOfNums (hexL l0)).size = 2 * l0.length := by rw [strOfNums_size, hexL_len]
      exact hex_walk A0 c0 l0 a1 w hC0 hc0 hb h h' 5000 x e (hex_is hb (by omega) (by omega)) (by rw [unhex_is (by omega) (by omega), h1]) (by rw [refUnhex_is (by omega) (by omega), h1]) (by rw [unhex_is (by omega) (by omega), unhex_hex hb])
    · exact hex_big A0 c0 l0 a1 w (.inr ⟨h, h'⟩) (by omega) w1
  · exact hex_big A0 c0 l0 a1 w (.inl h) (by omega) w1
end Go.Proofs.Ytaoapdcdnjmoiaa.QH
