/- What the printed functions of chapter 1 answer, in plain words of OctetMath. -/
import Derived.Test.YtgaekibompacnaaDoorQRx3
import Derived.Test.YtgaekibompacnaaDoorOctetMath
set_option linter.unusedVariables false
set_option linter.unusedSimpArgs false
namespace Go.Proofs.YtgaekibompacnaaDoor.QR
open Go.RowKit Go.Proofs.YtgaekibompacnaaDoorW.PrintWords Go.Proofs.YtgaekibompacnaaDoorW.PrintLast Go.Proofs.YtgaekibompacnaaDoorW.PrintMore Go.Proofs.YtgaekibompacnaaDoor.OctetMath

theorem room_is {l : List Int} {n : Int} (h0 : 0 ≤ n) (h1 : n ≤ 100) (hl : l.length ≤ 140737488351232) : octet_room.f l n = some l := by
  unfold octet_room.f
  rw [wrap64_id (by omega) (by omega), if_pos (by omega), if_pos (by omega)]
  simp only [Option.bind_some, List.nil_append, List.length_nil, Nat.zero_add]
  rw [if_pos (by omega)]

theorem eight_is {k : Nat} {l : List Int} {v : Int} (hk : 10 ≤ k) (h0 : 0 ≤ v) (h1 : v < 18446744073709551616) (hl : l.length ≤ 140737488351232) : octet_Eight.f k l v = some (l ++ eight v) := by
  obtain ⟨k, rfl⟩ : ∃ m, k = m + 10 := ⟨k - 10, by omega⟩
  unfold octet_Eight.f
  rw [room_is (by omega) (by omega) hl, Option.bind_some]
  have st : ∀ j (x : List Int) (s : Int), 0 ≤ s → s ≤ 56 → x.length ≤ 140737488351300 → octet_Eight.l0 (j + 1) v x s = octet_Eight.l0 j v (x ++ [v / 2 ^ s.toNat % 256]) (s - 8) := by
    intro j x s hs0 hs1 hx
    rw [octet_Eight.l0, wrap_u64 hs0 (by omega), if_pos (by omega), if_pos (by omega), if_pos (by omega), wrap64_id (by omega) (by omega)]
    simp only [shr, IntKind.bits]
    rw [Nat.min_eq_left (by omega)]
  rw [st _ _ _ (by omega) (by omega) (by omega), st _ _ _ (by omega) (by omega) (by simp; omega), st _ _ _ (by omega) (by omega) (by simp; omega), st _ _ _ (by omega) (by omega) (by simp; omega), st _ _ _ (by omega) (by omega) (by simp; omega), st _ _ _ (by omega) (by omega) (by simp; omega), st _ _ _ (by omega) (by omega) (by simp; omega), st _ _ _ (by omega) (by omega) (by simp; omega)]
  rw [octet_Eight.l0, if_neg (by omega)]
  simp only [List.append_assoc, List.cons_append, List.nil_append, eight]
  simp

end Go.Proofs.YtgaekibompacnaaDoor.QR
