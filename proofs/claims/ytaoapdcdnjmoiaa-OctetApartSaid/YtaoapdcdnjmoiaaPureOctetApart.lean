/- OctetApart: no number's bytes are the beginning of another one's, and greater numbers' bytes are not fewer; for all numbers. -/
import Derived.Test.YtaoapdcdnjmoiaaQAx3
import Derived.Test.YtaoapdcdnjmoiaaQAx1
import Derived.Test.YtaoapdcdnjmoiaaOctetPure
set_option linter.unusedVariables false
set_option linter.unusedSimpArgs false
namespace Go.Proofs.Ytaoapdcdnjmoiaa.Pure
open Go.RowKit Go.Proofs.Ytaoapdcdnjmoiaa.QA Go.Proofs.YtaoapdcdnjmoiaaW.PrintWords Go.Proofs.YtaoapdcdnjmoiaaW.PrintLast Go.Proofs.YtaoapdcdnjmoiaaW.PrintMore Go.Proofs.Ytaoapdcdnjmoiaa.OctetMath

theorem begun_is {k : Nat} (hk : 30 ≤ k) : touchstonelaw1_begun.f k = some true :=
  at_rounds (fun j => touchstonelaw1_begun.mono j) hk (by decide +kernel)

theorem OctetApart : touchstonelaw1_OctetApart.Pure := by
  intro a b ha hb
  obtain ⟨ha0, ha1⟩ := u64_wf ha
  obtain ⟨hb0, hb1⟩ := u64_wf hb
  refine ⟨30, ?_⟩
  have la := lay_length a
  have lb := lay_length b
  unfold touchstonelaw1_OctetApart.f
  rw [begun_is (by omega), Option.bind_some, if_pos rfl, var_is (by omega) ha0 ha1 (by simp), Option.bind_some, var_is (by omega) hb0 hb1 (by simp), Option.bind_some]
  simp only [List.nil_append, strOfNums_size]
  have hm : mn ((lay a).length : Int) ((lay b).length : Int) = ((min (lay a).length (lay b).length : Nat) : Int) := by
    unfold mn; split <;> omega
  rw [hm, if_pos (by omega)]
  have hle : a < b → (lay a).length ≤ (lay b).length := fun h => layF_mono 9 a b (by omega)
  by_cases e : a = b
  · rw [if_pos e]
    subst e
    simp
  · rw [if_neg e, if_pos (by omega), if_pos (by omega), if_pos (by omega)]
    rw [if_neg]
    · by_cases h : a ≥ b
      · rw [if_pos h]
      · rw [if_neg h]
        have := hle (by omega)
        simp only [Option.some.injEq, decide_eq_true_eq]
        omega
    · intro h
      apply e
      have h2 : (lay a).take (min (lay a).length (lay b).length) = (lay b).take (min (lay a).length (lay b).length) := by
        have inj : ∀ (x y : List Int), Bytes x → Bytes y → (x.map fun n : Int => UInt8.ofNat n.toNat) = (y.map fun n : Int => UInt8.ofNat n.toNat) → x = y := by
          intro x
          induction x with
          | nil => intro y _ _ h; cases y with | nil => rfl | cons _ _ => simp at h
          | cons c x ih =>
            intro y hx hy h
            cases y with
            | nil => simp at h
            | cons d y =>
              simp only [List.map_cons, List.cons.injEq] at h
              have hc := hx c List.mem_cons_self
              have hd := hy d List.mem_cons_self
              have h3 : c.toNat = d.toNat := by
                have h4 := congrArg UInt8.toNat h.1
                simp only [UInt8.toNat_ofNat'] at h4
                omega
              rw [ih y (fun z hz => hx z (List.mem_cons_of_mem _ hz)) (fun z hz => hy z (List.mem_cons_of_mem _ hz)) h.2, show c = d by omega]
        refine inj _ _ ((lay_bytes ha0 ha1).take _) ((lay_bytes hb0 hb1).take _) ?_
        have h5 := congrArg (fun l : List UInt8 => l) h
        simpa [ByteArray.toList_eq, strOfNums] using h5
      have pre : ∀ x y : Int, 0 ≤ x → x < 18446744073709551616 → 0 ≤ y → y < 18446744073709551616 → ∀ n, lay x = (lay y).take n → x = y := by
        intro x y hx0 hx1 hy0 hy1 n hxy
        have ta := tk_lay ((lay y).drop n) hx0 hx1
        have tb := tk_lay [] hy0 hy1
        rw [hxy, List.take_append_drop] at ta
        rw [List.append_nil] at tb
        have := ta.symm.trans tb
        exact congrArg Prod.fst this
      rcases Nat.le_total (lay a).length (lay b).length with hl | hl
      · rw [Nat.min_eq_left hl, List.take_length] at h2
        exact pre a b ha0 ha1 hb0 hb1 _ h2
      · rw [Nat.min_eq_right hl, List.take_length] at h2
        exact (pre b a hb0 hb1 ha0 ha1 _ h2.symm).symm
end Go.Proofs.Ytaoapdcdnjmoiaa.Pure
