/- Plain laws of the digest: what is filled up. -/
import Derived.Test.YtfehhihllenjiaaPb
import Derived.Test.YtfehhihllenjiaaPa
set_option linter.all false
namespace Go.Proofs.Ytfehhihllenjiaa
def padAt (b : List (BitVec 8)) (j p : Nat) : BitVec 8 :=
  if p < b.length then b.getD p 0#8 else if p = b.length then 0x80#8 else if padN b.length - 1 - p < j then BitVec.ofNat 8 (8 * b.length / 2 ^ (8 * (padN b.length - 1 - p))) else 0#8
def padJ (b : List (BitVec 8)) (j : Nat) : List (BitVec 8) := (List.range (padN b.length)).map (padAt b j)
theorem padN_ge (n : Nat) : n + 9 ≤ padN n := by unfold padN; omega
theorem padJ_length (b : List (BitVec 8)) (j : Nat) : (padJ b j).length = padN b.length := by simp [padJ]
theorem padJ_get (b : List (BitVec 8)) (j : Nat) {p : Nat} (hp : p < padN b.length) : (padJ b j).getD p 0#8 = padAt b j p := by
  simp [padJ, List.getD_eq_getElem?_getD, hp]
theorem getD_set8 {xs : List (BitVec 8)} {i p : Nat} {x : BitVec 8} (hi : i < xs.length) : (xs.set i x).getD p 0#8 = if p = i then x else xs.getD p 0#8 := by
  simp only [List.getD_eq_getElem?_getD, List.getElem?_set]
  by_cases e : i = p
  · subst e; simp [hi]
  · simp [e, Ne.symm e]
theorem padJ_zero (b : List (BitVec 8)) : (b ++ (List.replicate (padN b.length) 0#8).drop b.length).set b.length 0x80#8 = padJ b 0 := by
  have hN := padN_ge b.length
  apply list_ext8 (by rw [List.length_set, padJ_length]; simp; omega)
  intro p hp
  rw [List.length_set] at hp
  have hp2 : p < padN b.length := by simp at hp; omega
  rw [getD_set8 (by simp; omega), padJ_get b 0 hp2, getD_append8, getD_drop8, getD_rep8]
  unfold padAt
  by_cases h1 : p < b.length
  · rw [if_neg (by omega), if_pos h1, if_pos h1]
  · by_cases h2 : p = b.length
    · rw [if_pos h2, if_neg h1, if_pos h2]
    · rw [if_neg h2, if_neg h1, if_neg h1, if_neg h2, if_neg (by omega)]
theorem padJ_set (b : List (BitVec 8)) {j : Nat} (hj : j < 8) : (padJ b j).set (padN b.length - 1 - j) (BitVec.ofNat 8 (8 * b.length / 2 ^ (8 * j))) = padJ b (j + 1) := by
  have hN := padN_ge b.length
  apply list_ext8 (by rw [List.length_set, padJ_length, padJ_length])
  intro p hp
  rw [List.length_set, padJ_length] at hp
  rw [getD_set8 (by rw [padJ_length]; omega), padJ_get b j hp, padJ_get b (j + 1) hp]
  unfold padAt
  by_cases h1 : p < b.length
  · rw [if_neg (by omega), if_pos h1, if_pos h1]
  · by_cases h2 : p = b.length
    · rw [if_neg (by omega), if_neg h1, if_neg h1, if_pos h2, if_pos h2]
    · by_cases h3 : p = padN b.length - 1 - j
      · rw [if_pos h3, if_neg h1, if_neg h2, if_pos (by omega), show padN b.length - 1 - p = j by omega]
      · rw [if_neg h3, if_neg h1, if_neg h1, if_neg h2, if_neg h2]
        by_cases h4 : padN b.length - 1 - p < j
        · rw [if_pos h4, if_pos (by omega)]
        · rw [if_neg h4, if_neg (by omega)]
theorem be8_get (m : Nat) {i : Nat} (hi : i < 8) : (be8 m).getD i 0#8 = BitVec.ofNat 8 (m / 2 ^ (56 - 8 * i)) := by
  simp [be8, List.getD_eq_getElem?_getD, hi]
theorem padJ_full (b : List (BitVec 8)) : padJ b 8 = padS b := by
  have hN := padN_ge b.length
  have hNn := padN_ge b.length
  apply list_ext8 (by rw [padJ_length, padS_length])
  intro p hp
  rw [padJ_length] at hp
  rw [padJ_get b 8 hp]
  unfold padS padAt
  rw [getD_append8, getD_append8, getD_append8]
  have l1 : (b ++ [0x80#8]).length = b.length + 1 := by simp
  have l2 : (b ++ [0x80#8] ++ List.replicate (padN b.length - b.length - 9) 0#8).length = padN b.length - 8 := by simp; omega
  rw [l1, l2]
  by_cases h1 : p < b.length
  · rw [if_pos h1, if_pos (by omega), if_pos (by omega), if_pos h1]
  · rw [if_neg h1, if_neg h1]
    by_cases h2 : p = b.length
    · rw [if_pos h2, if_pos (by omega), if_pos (by omega), show p - b.length = 0 by omega]; rfl
    · rw [if_neg h2, if_neg (show ¬ p < b.length + 1 by omega), getD_rep8]
      by_cases h3 : padN b.length - 1 - p < 8
      · rw [if_pos h3, if_neg (by omega), be8_get _ (by omega)]
        congr 3
        omega
      · rw [if_neg h3, if_pos (by omega)]
theorem padJ_end (b : List (BitVec 8)) {j : Nat} (hj : j ≤ 8) (hz : 8 * b.length / 2 ^ (8 * j) = 0) : padJ b j = padS b := by
  rw [← padJ_full]
  unfold padJ
  apply List.map_congr_left
  intro p _
  unfold padAt
  split
  · rfl
  · split
    · rfl
    · have key : ∀ i, j ≤ i → 8 * b.length / 2 ^ (8 * i) = 0 := fun i hi => by
        have h1 : 2 ^ (8 * j) ≤ 2 ^ (8 * i) := Nat.pow_le_pow_right (by omega) (by omega)
        have h2 := (Nat.div_eq_zero_iff_lt (by exact Nat.pow_pos (by omega))).1 hz
        exact Nat.div_eq_of_lt (by omega)
      by_cases h1 : padN b.length - 1 - p < j
      · rw [if_pos h1, if_pos (by omega)]
      · rw [if_neg h1]
        split
        · rw [key _ (by omega)]
        · rfl
end Go.Proofs.Ytfehhihllenjiaa
