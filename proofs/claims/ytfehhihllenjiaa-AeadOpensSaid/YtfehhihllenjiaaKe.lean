/- One-time tags: the document's rows at last, plain. -/
import Derived.Test.YtfehhihllenjiaaKd
set_option linter.all false
namespace Go.Proofs.Ytfehhihllenjiaa
open Go.Proofs
theorem digit_get {l : List Nat} (h : ∀ x ∈ l, x < 256) {j : Nat} (hj : j < l.length) : l.getD j 0 = leV l / 256 ^ j % 256 := by
  have h1 := take_lt h j (by omega)
  have h2 : l.drop j = l.getD j 0 :: l.drop (j + 1) := by
    rw [List.drop_eq_getElem_cons hj, List.getD_eq_getElem?_getD, List.getElem?_eq_getElem hj]
    rfl
  have h3 : l.getD j 0 < 256 := h _ (by rw [List.getD_eq_getElem?_getD, List.getElem?_eq_getElem hj]; exact List.getElem_mem hj)
  rw [leV_split l j (by omega), h2, leV_cons, Nat.add_mul_div_left _ _ (Nat.pow_pos (by decide)), Nat.div_eq_of_lt h1, Nat.zero_add]
  generalize l.getD j 0 = x at *
  omega
theorem leV_range {l : List Nat} (h : ∀ x ∈ l, x < 256) (n : Nat) (hV : leV l < 256 ^ n) : leV ((List.range n).map (fun i => l.getD i 0)) = leV l := by
  by_cases hn : n ≤ l.length
  · rw [leV_map_range l n hn]
    have h1 := leV_split l n hn
    have h2 : leV (l.drop n) = 0 := by
      rcases Nat.eq_zero_or_pos (leV (l.drop n)) with h3 | h3
      · exact h3
      · have := Nat.mul_le_mul (Nat.le_refl (256 ^ n)) h3
        omega
    rw [h1, h2]; omega
  · have e : ∀ k, leV ((List.range (l.length + k)).map (fun i => l.getD i 0)) = leV l := by
      intro k
      induction k with
      | zero => rw [Nat.add_zero, leV_map_range l _ (Nat.le_refl _), List.take_length]
      | succ k ih =>
        have : l.getD (l.length + k) 0 = 0 := by rw [List.getD_eq_getElem?_getD, List.getElem?_eq_none (by omega)]; rfl
        rw [show l.length + (k + 1) = l.length + k + 1 from rfl, List.range_succ, List.map_append, List.map_cons, List.map_nil, leV_snoc, ih, this]; omega
    have := e (n - l.length)
    rwa [show l.length + (n - l.length) = n by omega] at this
theorem p17 : (256 : Nat) ^ 17 = 87112285931760246646623899502532662132736 := by decide
theorem bytes_leB {l : List Nat} (h : ∀ x ∈ l, x < 256) {k : Nat} (hk : k ≤ l.length) : ((List.range k).map fun i => BitVec.ofNat 8 (l.getD i 0)) = leB (leV l) k := by
  apply List.ext_getElem?
  intro i
  by_cases hi : i < k
  · rw [leB_get _ _ _ hi, List.getElem?_map, List.getElem?_range hi, Option.map_some, digit_get h (by omega)]
    congr 1
    apply BitVec.eq_of_toNat_eq
    rw [BitVec.toNat_ofNat, BitVec.toNat_ofNat]
    omega
  · rw [List.getElem?_eq_none (by simp; omega), List.getElem?_eq_none (by rw [leB_length]; omega)]
theorem mem_set_le {p : List Nat} {M : Nat} (h : ∀ x ∈ p, x ≤ M) {k v : Nat} (hv : v ≤ M) : ∀ x ∈ p.set k v, x ≤ M := by
  intro x hx
  rcases List.mem_or_eq_of_mem_set hx with h1 | h1
  · exact h x h1
  · subst h1; exact hv
theorem getD_le {p : List Nat} {M : Nat} (h : ∀ x ∈ p, x ≤ M) (k : Nat) : p.getD k 0 ≤ M := by
  rw [List.getD_eq_getElem?_getD]
  cases hk : p[k]? with
  | none => exact Nat.zero_le _
  | some x => exact h x (List.mem_of_getElem? hk)
end Go.Proofs.Ytfehhihllenjiaa
