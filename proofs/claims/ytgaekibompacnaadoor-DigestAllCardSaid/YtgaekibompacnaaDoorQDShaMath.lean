/- SHA-256's words, as the given program reckons them. -/
import Derived.Test.YtgaekibompacnaaDoorProg
import Derived.Test.YtgaekibompacnaaDoorXWords
import Derived.Test.YtgaekibompacnaaDoorOctetMath
import Derived.Test.YtgaekibompacnaaDoorQDx1
set_option linter.unusedVariables false
set_option linter.unusedSimpArgs false
namespace Go.Proofs.YtgaekibompacnaaDoor.QD
open Go.RowKit Go.Proofs.YtgaekibompacnaaDoorW.PrintWords Go.Proofs.YtgaekibompacnaaDoorW.PrintLast Go.Proofs.YtgaekibompacnaaDoorW.PrintMore
/-- A word turned to the right. -/
def trn (x n : Int) : Int := Go.bits .or .u32 (shr .u32 x n) (shl .u32 x (IntKind.u64.wrap (32 - n)))
theorem turn_is (x n : Int) (h0 : 0 ≤ n) (h1 : n ≤ 32) : digest_turn.f x n = some (trn x n) := by
  unfold digest_turn.f
  have h2 : IntKind.u64.wrap (32 - n) = 32 - n := by
    simp only [IntKind.wrap, IntKind.signed, IntKind.bits]
    simp
    omega
  rw [if_pos h0, if_pos (by rw [h2]; omega)]
  rfl
/-- Word number i of a block of bytes. -/
def wordAt (b : List Int) (i : Nat) : Int := Go.bits .or .u32 (Go.bits .or .u32 (Go.bits .or .u32 (IntKind.u32.wrap (IntKind.u32.wrap (rd b (4 * (i : Int))) * 16777216)) (IntKind.u32.wrap (IntKind.u32.wrap (rd b (4 * (i : Int) + 1)) * 65536))) (IntKind.u32.wrap (IntKind.u32.wrap (rd b (4 * (i : Int) + 2)) * 256))) (IntKind.u32.wrap (rd b (4 * (i : Int) + 3)))
def wordsAt (b : List Int) (n : Nat) : List Int := (List.range n).map (wordAt b)
theorem wordsAt_len (b : List Int) (n : Nat) : (wordsAt b n).length = n := by simp [wordsAt]
theorem wordsAt_succ (b : List Int) (n : Nat) : wordsAt b (n + 1) = wordsAt b n ++ [wordAt b n] := by simp [wordsAt, List.range_succ]
def sigA (x : Int) : Int := Go.bits .xor .u32 (Go.bits .xor .u32 (trn x 7) (trn x 18)) (shr .u32 x 3)
def sigB (x : Int) : Int := Go.bits .xor .u32 (Go.bits .xor .u32 (trn x 17) (trn x 19)) (shr .u32 x 10)
/-- The next word. -/
def nxt (l : List Int) : Int := (rd l ((l.length : Int) - 16) + sigA (rd l ((l.length : Int) - 15)) + rd l ((l.length : Int) - 7) + sigB (rd l ((l.length : Int) - 2))) % 4294967296
def sch (b : List Int) : Nat → List Int
  | 0 => wordsAt b 16
  | n + 1 => sch b n ++ [nxt (sch b n)]
theorem sch_len (b : List Int) : ∀ n, (sch b n).length = 16 + n
  | 0 => wordsAt_len b 16
  | n + 1 => by rw [sch, List.length_append, sch_len b n]; rfl
/-- A list, filled with nothing. -/
def fill (l : List Int) (n : Nat) : List Int := l ++ List.replicate (n - l.length) 0
def words (l : List Int) : Array Value := (l.map (Value.int .u32)).toArray
theorem fill_set (l : List Int) (x : Int) {n : Nat} (h : l.length < n) : (words (fill l n)).setIfInBounds l.length (.int .u32 x) = words (fill (l ++ [x]) n) := by
  obtain ⟨m, hm⟩ : ∃ m, n - l.length = m + 1 := ⟨n - l.length - 1, by omega⟩
  have h2 : n - (l ++ [x]).length = m := by simp; omega
  unfold words fill
  rw [hm, h2, List.replicate_succ]
  simp only [List.map_append, List.map_cons, List.setIfInBounds_toArray]
  rw [List.set_append_right _ _ (by simp)]
  simp
theorem fill_at (l : List Int) (n i : Nat) (h : i < l.length) : (words (fill l n))[i]? = some (.int .u32 (rd l i)) := by
  unfold words fill rd
  simp [List.getElem?_append_left, h, List.getD_eq_getElem?_getD]
theorem fill_new (l : List Int) {n : Nat} (h : l.length < n) : (words (fill l n))[l.length]? = some (.int .u32 0) := by
  obtain ⟨m, hm⟩ : ∃ m, n - l.length = m + 1 := ⟨n - l.length - 1, by omega⟩
  unfold words fill
  rw [hm, List.replicate_succ]
  simp
theorem fill_full {l : List Int} {n : Nat} (h : l.length = n) : fill l n = l := by simp [fill, h]
theorem eight_of {l : List Int} (h : l.length = 8) : ∃ a b c d e f g k, l = [a, b, c, d, e, f, g, k] := by
  match l, h with
  | [a, b, c, d, e, f, g, k], _ => exact ⟨a, b, c, d, e, f, g, k, rfl⟩
/-- The words of the rounds. -/
def KK : List Int := [1116352408, 1899447441, 3049323471, 3921009573, 961987163, 1508970993, 2453635748, 2870763221, 3624381080, 310598401, 607225278, 1426881987, 1925078388, 2162078206, 2614888103, 3248222580, 3835390401, 4022224774, 264347078, 604807628, 770255983, 1249150122, 1555081692, 1996064986, 2554220882, 2821834349, 2952996808, 3210313671, 3336571891, 3584528711, 113926993, 338241895, 666307205, 773529912, 1294757372, 1396182291, 1695183700, 1986661051, 2177026350, 2456956037, 2730485921, 2820302411, 3259730800, 3345764771, 3516065817, 3600352804, 4094571909, 275423344, 430227734, 506948616, 659060556, 883997877, 958139571, 1322822218, 1537002063, 1747873779, 1955562222, 2024104815, 2227730452, 2361852424, 2428436474, 2756734187, 3204031479, 3329325298]
def rSum (e : Int) : Int := Go.bits .xor .u32 (Go.bits .xor .u32 (trn e 6) (trn e 11)) (trn e 25)
def rCh (e f g : Int) : Int := Go.bits .xor .u32 (Go.bits .and .u32 e f) (Go.bits .and .u32 (Go.bits .xor .u32 IntKind.u32.max e) g)
def rMost (a b c : Int) : Int := Go.bits .xor .u32 (Go.bits .xor .u32 (Go.bits .and .u32 a b) (Go.bits .and .u32 a c)) (Go.bits .and .u32 b c)
def rOne (e f g h k w : Int) : Int := h + rSum e + rCh e f g + k + w
def rTwo (a b c : Int) : Int := Go.bits .xor .u32 (Go.bits .xor .u32 (trn a 2) (trn a 13)) (trn a 22) + rMost a b c
/-- One round. -/
def rnd (k w : Int) : List Int → List Int
  | [a, b, c, d, e, f, g, h] => [(rOne e f g h k w + rTwo a b c) % 4294967296, a, b, c, (d + rOne e f g h k w) % 4294967296, e, f, g]
  | l => l
def rounds (ws st : List Int) : Nat → List Int
  | 0 => st
  | i + 1 => rnd (rd KK i) (rd ws i) (rounds ws st i)
/-- A state, its first words increased. -/
def addN (st x : List Int) (i : Nat) : List Int := (List.range i).map (fun j : Nat => (rd st j + rd x j) % 4294967296) ++ st.drop i
theorem addN_set (st x : List Int) {i : Nat} (h : i < st.length) : (words (addN st x i)).setIfInBounds i (.int .u32 ((rd st i + rd x i) % 4294967296)) = words (addN st x (i + 1)) := by
  unfold words addN
  have h2 : st.drop i = st[i] :: st.drop (i + 1) := List.drop_eq_getElem_cons h
  rw [h2, List.range_succ]
  simp only [List.map_append, List.map_cons, List.setIfInBounds_toArray, List.map_nil]
  rw [List.set_append_right _ _ (by simp)]
  simp
theorem addN_at (st x : List Int) {i : Nat} (h : i < st.length) : (words (addN st x i))[i]? = some (.int .u32 (rd st i)) := by
  unfold words addN rd
  have h2 : st.drop i = st[i] :: st.drop (i + 1) := List.drop_eq_getElem_cons h
  rw [h2]
  simp [List.getElem?_append_right, List.getD_eq_getElem?_getD, List.getElem?_eq_getElem h]
theorem words_at (x : List Int) {i : Nat} (h : i < x.length) : (words x)[i]? = some (.int .u32 (rd x i)) := by
  unfold words rd
  simp [List.getD_eq_getElem?_getD, List.getElem?_eq_getElem h]
theorem rnd_len {k w : Int} {l : List Int} (h : l.length = 8) : (rnd k w l).length = 8 := by
  obtain ⟨a, b, c, d, e, f, g, i, rfl⟩ := eight_of h
  rfl
theorem rounds_len {ws st : List Int} (h : st.length = 8) : ∀ i, (rounds ws st i).length = 8
  | 0 => h
  | i + 1 => rnd_len (rounds_len h i)
/-- What mix makes of a state and a block. -/
def mixL (st b : List Int) : List Int := addN st (rounds (sch b 48) st 64) 8
theorem mixL_len {st b : List Int} (h : st.length = 8) : (mixL st b).length = 8 := by simp [mixL, addN, h]
end Go.Proofs.YtgaekibompacnaaDoor.QD
