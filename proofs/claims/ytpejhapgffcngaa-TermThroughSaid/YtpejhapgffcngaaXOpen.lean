/- What came in, read as lists of the printed kinds: slices of slices, records, trees of them. Used by the rows of laws. -/
import Derived.Deep.Slices
import Derived.SizedLaws
import Derived.Test.YtpejhapgffcngaaWWords
import Derived.Test.YtpejhapgffcngaaWApart
import Derived.Test.YtpejhapgffcngaaWMore
set_option linter.unusedVariables false
set_option linter.unusedSimpArgs false
namespace Go.Proofs.YtpejhapgffcngaaW.PrintWords
open Go.RowKit
def Opens (P : Program) (t : TypeId) {α : Type} (d : Kd α) (Wf : α → Prop) : Prop :=
 ∀ {H : Type} (enc : TypeId × Value → H) (w : World) (base : Nat) (spare : Nat → Bool) (held : Bool) (fuel : Nat) (cs : List Value) (x : DataW H × List MemPlace),
  DataW.trod enc P w base spare held fuel t cs = some x → (∀ n ∈ x.1.weights P t, n ≤ reachBytes) → ∃ y, d.K w y cs ∧ Wf y
theorem opens_param {H : Type} {enc : TypeId × Value → H} {P : Program} {W : World} {base : Nat} {spare : Nat → Bool} {held : Bool} {t : TypeId} {v : Value} {d : DataW H} {ps : List MemPlace} {ts : List TypeId} {ds : List (DataW H)} {j : Nat} {α : Type} {kd : Kd α} {Wf : α → Prop}
  (hsz : (DataW.weightsEach P ts ds).all (· ≤ reachBytes) = true) (ht : ts[j]? = some t) (hd : ds[j]? = some d) (ho : Opens P t kd Wf) (h : DataW.Trod enc P W base spare held t v d ps) :
  ∃ y, kd.K W y v.cells.toList ∧ Wf y := by
 obtain ⟨fuel, hf⟩ := h
 exact ho enc W base spare held fuel _ _ hf (fun n hn => by
  have := List.all_eq_true.1 hsz _ (DataW.weights_mem_each ht hd n hn)
  simpa using this)
end Go.Proofs.YtpejhapgffcngaaW.PrintWords

