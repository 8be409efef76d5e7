/- One-time tags: what the laws of tags rest on, plain. -/
import Derived.Test.YtfehhihllenjiaaKb
set_option linter.all false
namespace Go.Proofs.Ytfehhihllenjiaa
open Go.Proofs
theorem polyN_nil : polyN [] = 0 := rfl
theorem polyT_nil {k : List (BitVec 8)} (hk : k.length = 32) : polyT k [] = (k.drop 16).take 16 := by
  unfold polyT
  rw [polyN_nil, polyA_zero, Nat.zero_add]
  have h := leB_leN ((k.drop 16).take 16)
  have hl : ((k.drop 16).take 16).length = 16 := by simp [hk]
  rw [hl] at h
  exact h
theorem polyT_r0 {k : List (BitVec 8)} (b : List (BitVec 8)) (hk : k.length = 32) (hr : leN (clampB k) = 0) : polyT k b = (k.drop 16).take 16 := by
  rw [← polyT_nil hk]
  unfold polyT
  rw [hr, polyA_r0, polyA_r0]
theorem polyT_congr {k k' : List (BitVec 8)} (b : List (BitVec 8)) (h1 : clampB k = clampB k') (h2 : k.drop 16 = k'.drop 16) : polyT k b = polyT k' b := by
  unfold polyT
  rw [h1, h2]
theorem clampB_ext {k k' : List (BitVec 8)} (h : ∀ i, i < 16 → clampAt i (k.getD i 0#8) = clampAt i (k'.getD i 0#8)) : clampB k = clampB k' := by
  unfold clampB
  apply List.map_congr_left
  intro i hi
  exact h i (List.mem_range.mp hi)
theorem clampAt_zero (i : Nat) : clampAt i 0#8 = 0#8 := by
  unfold clampAt
  split
  · rfl
  · split <;> rfl
theorem clampB_zero {k : List (BitVec 8)} (h : ∀ i, i < 16 → k.getD i 0#8 = 0#8) : clampB k = List.replicate 16 0#8 := by
  unfold clampB
  have : ((List.range 16).map fun i => clampAt i (k.getD i 0#8)) = (List.range 16).map fun _ => 0#8 := by
    apply List.map_congr_left
    intro i hi
    rw [h i (List.mem_range.mp hi), clampAt_zero]
  rw [this]; rfl
theorem clampAt_twice (i : Nat) (x : BitVec 8) : clampAt i (clampAt i x) = clampAt i x := by
  unfold clampAt
  split
  · rw [BitVec.and_assoc, BitVec.and_self]
  · split
    · rw [BitVec.and_assoc, BitVec.and_self]
    · rfl
theorem clampB_get2 (k : List (BitVec 8)) (l : List (BitVec 8)) {i : Nat} (hi : i < 16) : (clampB k ++ l).getD i 0#8 = clampAt i (k.getD i 0#8) := by
  rw [List.getD_eq_getElem?_getD, List.getElem?_append_left (by rw [clampB_length]; exact hi), ← List.getD_eq_getElem?_getD, clampB_get k hi]
theorem clampB_twice (k l : List (BitVec 8)) : clampB (clampB k ++ l) = clampB k := by
  apply clampB_ext
  intro i hi
  rw [clampB_get2 k l hi, clampAt_twice]
theorem clampAt_bits (i : Nat) (x y : BitVec 8) : clampAt i (clampAt i x ||| (y &&& ~~~(clampAt i 255#8))) = clampAt i x := by
  unfold clampAt
  split
  · rw [BitVec.and_comm (_ ||| _) 15#8, BitVec.and_or_distrib_left, BitVec.and_comm 15#8, BitVec.and_assoc, BitVec.and_self, BitVec.and_comm y, ← BitVec.and_assoc]
    have : (15#8 &&& ~~~(255#8 &&& 15#8)) = 0#8 := by decide
    rw [this, BitVec.zero_and, BitVec.or_zero]
  · split
    · rw [BitVec.and_comm (_ ||| _) (~~~3#8), BitVec.and_or_distrib_left, BitVec.and_comm (~~~3#8), BitVec.and_assoc, BitVec.and_self, BitVec.and_comm y, ← BitVec.and_assoc]
      have : (~~~3#8 &&& ~~~(255#8 &&& ~~~3#8)) = 0#8 := by decide
      rw [this, BitVec.zero_and, BitVec.or_zero]
    · have : (~~~255#8) = 0#8 := by decide
      rw [this, BitVec.and_zero, BitVec.or_zero]
theorem polyT_inc {k k' : List (BitVec 8)} (b : List (BitVec 8)) (h1 : clampB k = clampB k') (h2 : leN ((k'.drop 16).take 16) = leN ((k.drop 16).take 16) + 1) : polyT k' b = incB (polyT k b) := by
  unfold polyT
  rw [← leB_inc, h2, h1, Nat.add_assoc]
theorem polyA_one (b : List (BitVec 8)) (h0 : 0 < b.length) (hl : b.length ≤ 15) : polyA 1 b (polyN b) = leN (b ++ [1#8]) := by
  have hn : polyN b = 1 := by unfold polyN; omega
  have hb : blkP b 0 = b := by
    unfold blkP
    rw [Nat.mul_zero, List.drop_zero, List.take_of_length_le (by omega)]
  have h := leN_lt (b ++ [1#8])
  have h2 : (256 : Nat) ^ (b ++ [1#8]).length ≤ 256 ^ 16 := Nat.pow_le_pow_right (by decide) (by simp; omega)
  have e : (256 : Nat) ^ 16 = 340282366920938463463374607431768211456 := by decide
  rw [hn, polyA_succ, polyA_zero, hb, Nat.zero_add, Nat.mul_one, Nat.mod_eq_of_lt]
  unfold P130
  omega
/-- The digits of bytes with a byte 1 behind them. -/
def oneD (b : List (BitVec 8)) (i : Nat) : Nat := if i < b.length then (b.getD i 0#8).toNat else if i = b.length then 1 else 0
theorem oneD_eq (b : List (BitVec 8)) (i : Nat) : ((b ++ [1#8]).getD i 0#8).toNat = oneD b i := by
  unfold oneD
  split
  · rename_i h
    rw [List.getD_eq_getElem?_getD, List.getElem?_append_left h, ← List.getD_eq_getElem?_getD]
  · split
    · rename_i h1 h
      subst h
      rw [List.getD_eq_getElem?_getD, List.getElem?_append_right (Nat.le_refl _), Nat.sub_self]; rfl
    · rename_i h1 h2
      rw [List.getD_eq_getElem?_getD, List.getElem?_eq_none (by simp; omega)]; rfl
theorem polyT_one {k : List (BitVec 8)} (b : List (BitVec 8)) (h0 : 0 < b.length) (hl : b.length ≤ 15) (hr : leN (clampB k) = 1) (hk : k.length = 32) :
    polyT k b = leB (dsum (fun i => (k.getD (16 + i) 0#8).toNat + oneD b i) 16) 16 := by
  have e1 : leN (b ++ [1#8]) = dsum (oneD b) 16 := by
    rw [← dsum_bytes (b ++ [1#8]) (n := 16) (by simp; omega)]
    exact dsum_congr 16 fun i _ => oneD_eq b i
  have e2 : leN ((k.drop 16).take 16) = dsum (fun i => (k.getD (16 + i) 0#8).toNat) 16 := by
    rw [← dsum_bytes ((k.drop 16).take 16) (n := 16) (by simp; omega)]
    refine dsum_congr 16 fun i hi => ?_
    rw [List.getD_eq_getElem?_getD, List.getD_eq_getElem?_getD, List.getElem?_take, if_pos hi, List.getElem?_drop]
  rw [dsum_add, ← e1, ← e2, Nat.add_comm (leN ((k.drop 16).take 16))]
  unfold polyT
  rw [hr, polyA_one b h0 hl]
end Go.Proofs.Ytfehhihllenjiaa
