/- Words as bit vectors, and the rules by which the evaluator is rewritten. -/
import Derived.Test.YtfehhihllenjiaaU
set_option linter.all false
namespace Go.Proofs.Ytfehhihllenjiaa

def w8 (x : BitVec 8) : Value := .int .u8 x.toNat
def w32 (x : BitVec 32) : Value := .int .u32 x.toNat
def w64 (x : BitVec 64) : Value := .int .u64 x.toNat
/-- An int that is not below nothing. -/
def iv (n : Nat) : Value := .int .i64 n

theorem lit_w8 (n : Nat) (h : n < 256) : Value.int .u8 (no_index (OfNat.ofNat n) : Int) = w8 (BitVec.ofNat 8 n) := by
  unfold w8; rw [BitVec.toNat_ofNat, Nat.mod_eq_of_lt h]; rfl
theorem lit_w32 (n : Nat) (h : n < 4294967296) : Value.int .u32 (no_index (OfNat.ofNat n) : Int) = w32 (BitVec.ofNat 32 n) := by
  unfold w32; rw [BitVec.toNat_ofNat, Nat.mod_eq_of_lt h]; rfl
theorem lit_w64 (n : Nat) (h : n < 18446744073709551616) : Value.int .u64 (no_index (OfNat.ofNat n) : Int) = w64 (BitVec.ofNat 64 n) := by
  unfold w64; rw [BitVec.toNat_ofNat, Nat.mod_eq_of_lt h]; rfl
theorem lit_iv (n : Nat) : Value.int .i64 (no_index (OfNat.ofNat n) : Int) = iv n := rfl

/-! numbers of so many bits -/
section
variable {k : IntKind} (hk : k.signed = false) (x y : BitVec k.bits)
include hk
theorem wrapU (n : Int) : k.wrap n = n % (2 ^ k.bits : Int) := by unfold IntKind.wrap; simp [hk]
theorem wrapU_nat (n : Nat) : k.wrap (n : Int) = ((n % 2 ^ k.bits : Nat) : Int) := by rw [wrapU hk]; simp
theorem u_add : evIntOp .add k x.toNat y.toNat = some (.int k (x + y).toNat) := by
  simp only [evIntOp, Option.some.injEq, Value.int.injEq, true_and]
  rw [show (x.toNat : Int) + y.toNat = ((x.toNat + y.toNat : Nat) : Int) by simp, wrapU_nat hk, BitVec.toNat_add]
theorem u_sub : evIntOp .sub k x.toNat y.toNat = some (.int k (x - y).toNat) := by
  simp only [evIntOp, Option.some.injEq, Value.int.injEq, true_and]
  rw [wrapU hk, BitVec.toNat_sub]
  have hx := x.isLt
  have hy := y.isLt
  rw [show ((2 : Int) ^ k.bits) = ((2 ^ k.bits : Nat) : Int) by simp]
  rw [show (x.toNat : Int) - y.toNat = ((2 ^ k.bits - y.toNat + x.toNat : Nat) : Int) - ((2 ^ k.bits : Nat) : Int) by omega]
  rw [Int.sub_emod_right]
  exact (Int.natCast_emod _ _).symm
theorem u_mul : evIntOp .mul k x.toNat y.toNat = some (.int k (x * y).toNat) := by
  simp only [evIntOp, Option.some.injEq, Value.int.injEq, true_and]
  rw [show (x.toNat : Int) * y.toNat = ((x.toNat * y.toNat : Nat) : Int) by simp, wrapU_nat hk, BitVec.toNat_mul]
theorem u_and : evIntOp .and k x.toNat y.toNat = some (.int k (x &&& y).toNat) := by
  simp only [evIntOp, Option.some.injEq, Value.int.injEq, true_and, BitVec.ofInt_natCast, BitVec.ofNat_toNat, BitVec.setWidth_eq]
  rw [wrapU_nat hk, Nat.mod_eq_of_lt (BitVec.isLt _)]
theorem u_or : evIntOp .or k x.toNat y.toNat = some (.int k (x ||| y).toNat) := by
  simp only [evIntOp, Option.some.injEq, Value.int.injEq, true_and, BitVec.ofInt_natCast, BitVec.ofNat_toNat, BitVec.setWidth_eq]
  rw [wrapU_nat hk, Nat.mod_eq_of_lt (BitVec.isLt _)]
theorem u_xor : evIntOp .xor k x.toNat y.toNat = some (.int k (x ^^^ y).toNat) := by
  simp only [evIntOp, Option.some.injEq, Value.int.injEq, true_and, BitVec.ofInt_natCast, BitVec.ofNat_toNat, BitVec.setWidth_eq]
  rw [wrapU_nat hk, Nat.mod_eq_of_lt (BitVec.isLt _)]
theorem u_andNot : evIntOp .andNot k x.toNat y.toNat = some (.int k (x &&& ~~~y).toNat) := by
  simp only [evIntOp, Option.some.injEq, Value.int.injEq, true_and, BitVec.ofInt_natCast, BitVec.ofNat_toNat, BitVec.setWidth_eq]
  rw [wrapU_nat hk, Nat.mod_eq_of_lt (BitVec.isLt _)]
theorem u_quo (hy : y ≠ 0) : evIntOp .quo k x.toNat y.toNat = some (.int k (x / y).toNat) := by
  have h0 : ¬ ((y.toNat : Int) = 0) := fun h => hy (BitVec.eq_of_toNat_eq (by simp; omega))
  simp only [evIntOp, h0, if_false, Option.some.injEq, Value.int.injEq, true_and]
  rw [Int.tdiv_eq_ediv_of_nonneg (by omega), show (x.toNat : Int) / y.toNat = ((x.toNat / y.toNat : Nat) : Int) by simp, wrapU_nat hk, BitVec.toNat_udiv, Nat.mod_eq_of_lt]
  exact Nat.lt_of_le_of_lt (Nat.div_le_self _ _) x.isLt
theorem u_shl (n : Nat) : evShift .shl k x.toNat (n : Int) = some (.int k (x <<< n).toNat) := by
  have h0 : ¬ ((n : Int) < 0) := by omega
  simp only [evShift, h0, if_false, Option.some.injEq, Value.int.injEq, true_and, Int.toNat_natCast]
  rw [show (x.toNat : Int) * 2 ^ (min n k.bits) = ((x.toNat * 2 ^ (min n k.bits) : Nat) : Int) by simp, wrapU_nat hk, BitVec.toNat_shiftLeft, Nat.shiftLeft_eq]
  congr 1
  by_cases hn : n ≤ k.bits
  · rw [Nat.min_eq_left hn]
  · rw [Nat.min_eq_right (by omega), Nat.mul_mod_left]
    have : 2 ^ n = 2 ^ k.bits * 2 ^ (n - k.bits) := by rw [← Nat.pow_add]; congr 1; omega
    rw [this, Nat.mul_left_comm, Nat.mul_mod_right]
theorem u_shr (n : Nat) : evShift .shr k x.toNat (n : Int) = some (.int k (x >>> n).toNat) := by
  have h0 : ¬ ((n : Int) < 0) := by omega
  simp only [evShift, h0, if_false, Option.some.injEq, Value.int.injEq, true_and, Int.toNat_natCast]
  rw [Int.fdiv_eq_ediv_of_nonneg _ (by simp [Int.pow_nonneg]), show (x.toNat : Int) / 2 ^ (min n k.bits) = ((x.toNat / 2 ^ (min n k.bits) : Nat) : Int) by simp, BitVec.toNat_ushiftRight, Nat.shiftRight_eq_div_pow]
  congr 1
  by_cases hn : n ≤ k.bits
  · rw [Nat.min_eq_left hn]
  · rw [Nat.min_eq_right (by omega), Nat.div_eq_of_lt x.isLt, Nat.div_eq_of_lt]
    exact Nat.lt_of_lt_of_le x.isLt (Nat.pow_le_pow_right (by omega) (by omega))
omit hk
theorem u_eql : evIntOp .eql k x.toNat y.toNat = some (.bool (decide (x = y))) := by
  simp only [evIntOp, Option.some.injEq, Value.bool.injEq]
  by_cases h : x = y
  · simp [h]
  · have : ¬ ((x.toNat : Int) = y.toNat) := fun e => h (BitVec.eq_of_toNat_eq (by omega))
    simp [h, this]
theorem u_neq : evIntOp .neq k x.toNat y.toNat = some (.bool (!decide (x = y))) := by
  simp only [evIntOp, Option.some.injEq, Value.bool.injEq]
  by_cases h : x = y
  · simp [h]
  · have : ¬ ((x.toNat : Int) = y.toNat) := fun e => h (BitVec.eq_of_toNat_eq (by omega))
    simp [h, this, bne]
theorem u_lss : evIntOp .lss k x.toNat y.toNat = some (.bool (decide (x.toNat < y.toNat))) := by simp [evIntOp]
theorem u_leq : evIntOp .leq k x.toNat y.toNat = some (.bool (decide (x.toNat ≤ y.toNat))) := by simp [evIntOp]
theorem u_gtr : evIntOp .gtr k x.toNat y.toNat = some (.bool (decide (y.toNat < x.toNat))) := by simp [evIntOp]
theorem u_geq : evIntOp .geq k x.toNat y.toNat = some (.bool (decide (y.toNat ≤ x.toNat))) := by simp [evIntOp]
end
end Go.Proofs.Ytfehhihllenjiaa
