-- By this session's own printing program: a text of this claim's own.
import Derived.Test.YtgaekibompacnaaDoorRows
import Derived.Test.YtgaekibompacnaaDoorQDAllWalk
import Derived.Test.YtgaekibompacnaaDoorQDLaidOf
import Derived.Test.YtgaekibompacnaaDoorTie
import Derived.Test.YtgaekibompacnaaDoorCards
import Derived.LaidMore
import Derived.Stop.Joined
import Derived.SevenTiedAt
import Derived.WalkKit
import Derived.ProofKit
import Derived.OpenShut
import Derived.ShutString
import Derived.ChangeOld
import Derived.Below
import Derived.SizedLaws
import Derived.Test.YtgaekibompacnaaDoorWSized
import Derived.Test.YtgaekibompacnaaDoorXOpen
namespace Go.Proofs.YtgaekibompacnaaDoor.digestAll
open Go.ChangeShapes Go.WideShapes Go.ChangeAt Go.RowKit
open Go.ChangeMaps (open_string shut_string)
set_option linter.unusedVariables false
theorem own : ownKnob Tryd.prog.godebug = none := by kernel_rfl
theorem laidOut : laidOutB Tryd.prog = true := by kernel_rfl
def IsRow (k : IntKind) (w : World) (a : Option Addr) (len cap : Nat) (zs : List Int) : Prop :=
  (a = none ∧ len = 0 ∧ cap = 0 ∧ zs = []) ∨
  ∃ x, a = some x ∧ len ≤ cap ∧ cap ≤ maxLen ∧ zs.length = cap ∧ (∀ i, i < zs.length → w.cell? (x.add i) = some (.int k (zs.getD i 0))) ∧ ∀ n ∈ zs, (Lit.int k n).wf = true
set_option maxRecDepth 100000 in
theorem lifted (os : Os) (started : os.Started) (H : Type) (enc : TypeId × Value → H) :
    ReturnsInHanded {} Tryd.checked os 5 .any (fun w args => (Rows.digestAllSpec.pre enc Tryd.prog Tryd.f5 [] false w args ∧ laidMetH Tryd.prog [("touchstone/digest.round", Rows.laid_touchstone_digest_round)] w) ∧ sizedMet enc Tryd.prog Tryd.f5 (OpenSpec.ofChange Rows.digestAllSpec) false w args) (Rows.digestAllSpec.post enc Tryd.prog Tryd.f5 false true false false) := by
  refine returnsInHanded_of_change_and (C := Tryd.checked) (X := fun w _ => laidMetH Tryd.prog [("touchstone/digest.round", Rows.laid_touchstone_digest_round)] w) (fun _ _ _ hh h => h.of_heap hh) own started (by kernel_rfl) Tryd.func5
    (ChangeSpec.witness_shaped (enc := enc) (C := Tryd.checked) (os := os) (X := fun w _ => laidMetH Tryd.prog [("touchstone/digest.round", Rows.laid_touchstone_digest_round)] w) false (World.doorLaid Tryd.prog 14 os) #[.slice none 0 0, .slice none 0 0] 8 rfl (World.shaped_of_RefB (by kernel_rfl) (by kernel_rfl)) (by kernel_rfl) (by kernel_rfl) (by kernel_rfl) (Tab.door_met os _)) ?_
  intro W base args ds gs before hval0 hW hcnd hsz0 hL _
  have hsz : (DataW.weightsEach Tryd.prog (Tryd.f5.params.toList ++ Rows.digestAllSpec.plain.varTypes Tryd.prog) (ds ++ gs)).all (· ≤ reachBytes) = true := hsz0
  have hval : ∀ (j : Nat) t v, Tryd.f5.params[j]? = some t → args[j]? = some v → Value.okWide Tryd.prog W .any base t v := hval0
  have hW' := hW
  obtain ⟨p, q, hA0, hV, rfl, hfz, hnd⟩ := hW
  have hA : DataW.TrodAll enc Tryd.prog W 0 (fun _ => true) true Tryd.f5.params.toList args.toList ds p := hA0
  rw [Tryd.params5] at hA hval hsz
  obtain ⟨v0, vs0, d0, ds0, p0, q0, hargs, rfl, rfl, h0, r0⟩ := trodAll_cons hA
  obtain ⟨v1, vs1, d1, ds1, p1, q1, rfl, rfl, rfl, h1, r1⟩ := trodAll_cons r0
  obtain ⟨rfl, rfl, rfl⟩ := trodAll_nil r1
  obtain rfl : args = #[v0, v1] := by cases args; simp_all
  obtain ⟨rfl, rfl⟩ := trodVars_none hV
  obtain ⟨a0, len0, cap0, rfl⟩ := okWide_slice Tryd.underlying27 (hval 0 27 v0 rfl rfl)
  have k0 := h0
  have lt0 : ∀ x ∈ p0, x.block < W.heap.size := by obtain ⟨m, hm⟩ := k0; exact DataW.trod_lt m _ _ _ hm
  obtain ⟨l0, ⟨A_0, c_0, hcs0, hl0, hC0⟩, hW0⟩ := Go.Proofs.YtgaekibompacnaaDoorW.PrintWords.opens_param hsz (j := 0) (t := 27) rfl rfl (Go.Proofs.YtgaekibompacnaaDoorW.PrintWords.opens_slice (d := (Go.Proofs.YtgaekibompacnaaDoorW.PrintWords.Kd.slice 5 (Go.Proofs.YtgaekibompacnaaDoorW.PrintWords.Kd.int .u8))) Tryd.underlying27 (by kernel_rfl) (B := 24) (by kernel_rfl) (Go.Proofs.YtgaekibompacnaaDoorW.PrintWords.opens_slice (d := (Go.Proofs.YtgaekibompacnaaDoorW.PrintWords.Kd.int .u8)) Tryd.underlying22 (by kernel_rfl) (B := 1) (by kernel_rfl) (Go.Proofs.YtgaekibompacnaaDoorW.PrintWords.opens_int Tryd.underlying5))) h0
  simp [Value.cells] at hcs0
  obtain ⟨rfl, rfl, rfl⟩ := hcs0
  obtain ⟨a1, len1, cap1, rfl⟩ := okWide_slice Tryd.underlying22 (hval 1 22 v1 rfl rfl)
  have k1 := h1
  have lt1 : ∀ x ∈ p1, x.block < W.heap.size := by obtain ⟨m, hm⟩ := k1; exact DataW.trod_lt m _ _ _ hm
  obtain ⟨l1, ⟨A_1, c_1, hcs1, hl1, hC1⟩, hW1⟩ := Go.Proofs.YtgaekibompacnaaDoorW.PrintWords.opens_param hsz (j := 1) (t := 22) rfl rfl (Go.Proofs.YtgaekibompacnaaDoorW.PrintWords.opens_slice (d := (Go.Proofs.YtgaekibompacnaaDoorW.PrintWords.Kd.int .u8)) Tryd.underlying22 (by kernel_rfl) (B := 1) (by kernel_rfl) (Go.Proofs.YtgaekibompacnaaDoorW.PrintWords.opens_int Tryd.underlying5)) h1
  simp [Value.cells] at hcs1
  obtain ⟨rfl, rfl, rfl⟩ := hcs1
  clear hA0 hval0 hsz0 hsz
  refine (QD.touchstonelaw2_DigestAll.walk _ _ l0 _ _ l1 W (Tab.of_laid hL) hC0 hl0 hW0 hC1 hl1 hW1).mono fun e W' ⟨he, bel⟩ => ?_
  subst he
  exact ⟨_, rfl, _, _, _, [], _, [], hW', trodAll_mk1 (shut_bool Tryd.underlying4 _), (trodAll_cons_mk (Below.trod laidOut (by kernel_rfl) (of_decide_eq_true (by kernel_rfl)) k0 bel lt0) (trodAll_cons_mk (Below.trod laidOut (by kernel_rfl) (of_decide_eq_true (by kernel_rfl)) k1 bel lt1) trodAll_mk0)), rfl, bel.frame _, fun h => by cases h⟩
theorem over : Rows.digestAllRow.holds Tryd.pinned (OpenSpec.ofChange Rows.digestAllSpec) :=
  OpenClaim.holds_of_wide 5 Tryd.f5 rfl rfl rfl rfl rfl rfl rfl ⟨rfl, rfl, rfl, rfl, rfl⟩ rfl rfl rfl rfl rfl (by kernel_rfl) Tryd.func5 (by kernel_rfl)
    (of_decide_eq_true (by kernel_rfl)) (by unfold Func.isWrapper; first | (rw [if_pos (by decide +kernel)]; kernel_rfl) | (rw [if_neg (by decide +kernel)]; exact ⟨rfl, rfl⟩))
    (fun os started H enc _ => lifted os started H enc)
theorem proved : Rows.DigestAllCardSaid :=
  Claim7.holds_tied_plain_at .later [] [.data] true (true, "134ff1a9a9ed42973d31a1b798d85d9360342cb599f2120993de9a72604923e9") false
    over (fun _ h => by cases h) (by kernel_rfl) (fun _ h => by cases h) digestAll_row_tie rfl ⟨rfl, rfl⟩ (by kernel_rfl) rfl
    (fun f fn hf hfn => by
      obtain rfl : f = 5 := Option.some.inj ((show Tryd.prog.funcNamed "touchstone/touchstonelaw2.DigestAll" = some 5 by kernel_rfl).symm.trans hf) |>.symm
      obtain rfl : fn = Tryd.f5 := (Option.some.inj (Tryd.func5.symm.trans hfn)).symm
      exact ⟨by kernel_rfl, fun j t ht => by
        rw [Tryd.params5] at ht
        have hm : t ∈ [27, 22] := by simpa using Array.mem_of_getElem? ht
        have hall : ([27, 22].all fun u => !Tryd.prog.wantsStandIn u) = true := by kernel_rfl
        exact (show Tryd.prog.wantsStandIn t = false by simpa using List.all_eq_true.1 hall t hm)⟩)
    (by kernel_rfl)
#print axioms proved
end Go.Proofs.YtgaekibompacnaaDoor.digestAll
namespace Go.Proofs.YtgaekibompacnaaDoor
/-- The card, under a short name, for the claim. -/
theorem digestAll_holds : Rows.DigestAllCardSaid := digestAll.proved
end Go.Proofs.YtgaekibompacnaaDoor
