/- The rules by which the evaluator is rewritten: words, whole numbers, truth. -/
import Derived.Test.YtfehhihllenjiaaV
set_option linter.all false
namespace Go.Proofs.Ytfehhihllenjiaa

section
variable {P : Program} {t : TypeId} {l : Bool}
theorem bin_int {op : BinOp} {k : IntKind} {a b : Int} (h : (op != .shl && op != .shr) = true) : evBin P op t l (.int k a) (.int k b) = evIntOp op k a b := by
  cases op <;> first | (simp [evBin]; done) | (exact absurd h (by decide))

theorem w8_add (x y : BitVec 8) : evBin P .add t l (w8 x) (w8 y) = some (w8 (x + y)) := (bin_int (by decide)).trans (u_add (k := .u8) rfl x y)
theorem w8_sub (x y : BitVec 8) : evBin P .sub t l (w8 x) (w8 y) = some (w8 (x - y)) := (bin_int (by decide)).trans (u_sub (k := .u8) rfl x y)
theorem w8_mul (x y : BitVec 8) : evBin P .mul t l (w8 x) (w8 y) = some (w8 (x * y)) := (bin_int (by decide)).trans (u_mul (k := .u8) rfl x y)
theorem w8_and (x y : BitVec 8) : evBin P .and t l (w8 x) (w8 y) = some (w8 (x &&& y)) := (bin_int (by decide)).trans (u_and (k := .u8) rfl x y)
theorem w8_or (x y : BitVec 8) : evBin P .or t l (w8 x) (w8 y) = some (w8 (x ||| y)) := (bin_int (by decide)).trans (u_or (k := .u8) rfl x y)
theorem w8_xor (x y : BitVec 8) : evBin P .xor t l (w8 x) (w8 y) = some (w8 (x ^^^ y)) := (bin_int (by decide)).trans (u_xor (k := .u8) rfl x y)
theorem w8_andNot (x y : BitVec 8) : evBin P .andNot t l (w8 x) (w8 y) = some (w8 (x &&& ~~~y)) := (bin_int (by decide)).trans (u_andNot (k := .u8) rfl x y)
theorem w8_quo (x y : BitVec 8) (h : y ≠ 0) : evBin P .quo t l (w8 x) (w8 y) = some (w8 (x / y)) := (bin_int (by decide)).trans (u_quo (k := .u8) rfl x y h)
theorem w8_eql (x y : BitVec 8) : evBin P .eql t l (w8 x) (w8 y) = some (.bool (decide (x = y))) := (bin_int (by decide)).trans (u_eql (k := .u8) x y)
theorem w8_neq (x y : BitVec 8) : evBin P .neq t l (w8 x) (w8 y) = some (.bool (!decide (x = y))) := (bin_int (by decide)).trans (u_neq (k := .u8) x y)
theorem w8_lss (x y : BitVec 8) : evBin P .lss t l (w8 x) (w8 y) = some (.bool (decide (x.toNat < y.toNat))) := (bin_int (by decide)).trans (u_lss (k := .u8) x y)
theorem w8_leq (x y : BitVec 8) : evBin P .leq t l (w8 x) (w8 y) = some (.bool (decide (x.toNat ≤ y.toNat))) := (bin_int (by decide)).trans (u_leq (k := .u8) x y)
theorem w8_gtr (x y : BitVec 8) : evBin P .gtr t l (w8 x) (w8 y) = some (.bool (decide (y.toNat < x.toNat))) := (bin_int (by decide)).trans (u_gtr (k := .u8) x y)
theorem w8_geq (x y : BitVec 8) : evBin P .geq t l (w8 x) (w8 y) = some (.bool (decide (y.toNat ≤ x.toNat))) := (bin_int (by decide)).trans (u_geq (k := .u8) x y)
theorem w8_shl (x : BitVec 8) (n : Nat) : evBin P .shl t l (w8 x) (iv n) = some (w8 (x <<< n)) := u_shl (k := .u8) rfl x n
theorem w8_shl8 (x : BitVec 8) (n : BitVec 8) : evBin P .shl t l (w8 x) (w8 n) = some (w8 (x <<< n.toNat)) := u_shl (k := .u8) rfl x n.toNat
theorem w8_shl32 (x : BitVec 8) (n : BitVec 32) : evBin P .shl t l (w8 x) (w32 n) = some (w8 (x <<< n.toNat)) := u_shl (k := .u8) rfl x n.toNat
theorem w8_shl64 (x : BitVec 8) (n : BitVec 64) : evBin P .shl t l (w8 x) (w64 n) = some (w8 (x <<< n.toNat)) := u_shl (k := .u8) rfl x n.toNat
theorem w8_shr (x : BitVec 8) (n : Nat) : evBin P .shr t l (w8 x) (iv n) = some (w8 (x >>> n)) := u_shr (k := .u8) rfl x n
theorem w8_shr8 (x : BitVec 8) (n : BitVec 8) : evBin P .shr t l (w8 x) (w8 n) = some (w8 (x >>> n.toNat)) := u_shr (k := .u8) rfl x n.toNat
theorem w8_shr32 (x : BitVec 8) (n : BitVec 32) : evBin P .shr t l (w8 x) (w32 n) = some (w8 (x >>> n.toNat)) := u_shr (k := .u8) rfl x n.toNat
theorem w8_shr64 (x : BitVec 8) (n : BitVec 64) : evBin P .shr t l (w8 x) (w64 n) = some (w8 (x >>> n.toNat)) := u_shr (k := .u8) rfl x n.toNat
theorem w32_add (x y : BitVec 32) : evBin P .add t l (w32 x) (w32 y) = some (w32 (x + y)) := (bin_int (by decide)).trans (u_add (k := .u32) rfl x y)
theorem w32_sub (x y : BitVec 32) : evBin P .sub t l (w32 x) (w32 y) = some (w32 (x - y)) := (bin_int (by decide)).trans (u_sub (k := .u32) rfl x y)
theorem w32_mul (x y : BitVec 32) : evBin P .mul t l (w32 x) (w32 y) = some (w32 (x * y)) := (bin_int (by decide)).trans (u_mul (k := .u32) rfl x y)
theorem w32_and (x y : BitVec 32) : evBin P .and t l (w32 x) (w32 y) = some (w32 (x &&& y)) := (bin_int (by decide)).trans (u_and (k := .u32) rfl x y)
theorem w32_or (x y : BitVec 32) : evBin P .or t l (w32 x) (w32 y) = some (w32 (x ||| y)) := (bin_int (by decide)).trans (u_or (k := .u32) rfl x y)
theorem w32_xor (x y : BitVec 32) : evBin P .xor t l (w32 x) (w32 y) = some (w32 (x ^^^ y)) := (bin_int (by decide)).trans (u_xor (k := .u32) rfl x y)
theorem w32_andNot (x y : BitVec 32) : evBin P .andNot t l (w32 x) (w32 y) = some (w32 (x &&& ~~~y)) := (bin_int (by decide)).trans (u_andNot (k := .u32) rfl x y)
theorem w32_quo (x y : BitVec 32) (h : y ≠ 0) : evBin P .quo t l (w32 x) (w32 y) = some (w32 (x / y)) := (bin_int (by decide)).trans (u_quo (k := .u32) rfl x y h)
theorem w32_eql (x y : BitVec 32) : evBin P .eql t l (w32 x) (w32 y) = some (.bool (decide (x = y))) := (bin_int (by decide)).trans (u_eql (k := .u32) x y)
theorem w32_neq (x y : BitVec 32) : evBin P .neq t l (w32 x) (w32 y) = some (.bool (!decide (x = y))) := (bin_int (by decide)).trans (u_neq (k := .u32) x y)
theorem w32_lss (x y : BitVec 32) : evBin P .lss t l (w32 x) (w32 y) = some (.bool (decide (x.toNat < y.toNat))) := (bin_int (by decide)).trans (u_lss (k := .u32) x y)
theorem w32_leq (x y : BitVec 32) : evBin P .leq t l (w32 x) (w32 y) = some (.bool (decide (x.toNat ≤ y.toNat))) := (bin_int (by decide)).trans (u_leq (k := .u32) x y)
theorem w32_gtr (x y : BitVec 32) : evBin P .gtr t l (w32 x) (w32 y) = some (.bool (decide (y.toNat < x.toNat))) := (bin_int (by decide)).trans (u_gtr (k := .u32) x y)
theorem w32_geq (x y : BitVec 32) : evBin P .geq t l (w32 x) (w32 y) = some (.bool (decide (y.toNat ≤ x.toNat))) := (bin_int (by decide)).trans (u_geq (k := .u32) x y)
theorem w32_shl (x : BitVec 32) (n : Nat) : evBin P .shl t l (w32 x) (iv n) = some (w32 (x <<< n)) := u_shl (k := .u32) rfl x n
theorem w32_shl8 (x : BitVec 32) (n : BitVec 8) : evBin P .shl t l (w32 x) (w8 n) = some (w32 (x <<< n.toNat)) := u_shl (k := .u32) rfl x n.toNat
theorem w32_shl32 (x : BitVec 32) (n : BitVec 32) : evBin P .shl t l (w32 x) (w32 n) = some (w32 (x <<< n.toNat)) := u_shl (k := .u32) rfl x n.toNat
theorem w32_shl64 (x : BitVec 32) (n : BitVec 64) : evBin P .shl t l (w32 x) (w64 n) = some (w32 (x <<< n.toNat)) := u_shl (k := .u32) rfl x n.toNat
theorem w32_shr (x : BitVec 32) (n : Nat) : evBin P .shr t l (w32 x) (iv n) = some (w32 (x >>> n)) := u_shr (k := .u32) rfl x n
theorem w32_shr8 (x : BitVec 32) (n : BitVec 8) : evBin P .shr t l (w32 x) (w8 n) = some (w32 (x >>> n.toNat)) := u_shr (k := .u32) rfl x n.toNat
theorem w32_shr32 (x : BitVec 32) (n : BitVec 32) : evBin P .shr t l (w32 x) (w32 n) = some (w32 (x >>> n.toNat)) := u_shr (k := .u32) rfl x n.toNat
theorem w32_shr64 (x : BitVec 32) (n : BitVec 64) : evBin P .shr t l (w32 x) (w64 n) = some (w32 (x >>> n.toNat)) := u_shr (k := .u32) rfl x n.toNat
theorem w64_add (x y : BitVec 64) : evBin P .add t l (w64 x) (w64 y) = some (w64 (x + y)) := (bin_int (by decide)).trans (u_add (k := .u64) rfl x y)
theorem w64_sub (x y : BitVec 64) : evBin P .sub t l (w64 x) (w64 y) = some (w64 (x - y)) := (bin_int (by decide)).trans (u_sub (k := .u64) rfl x y)
theorem w64_mul (x y : BitVec 64) : evBin P .mul t l (w64 x) (w64 y) = some (w64 (x * y)) := (bin_int (by decide)).trans (u_mul (k := .u64) rfl x y)
theorem w64_and (x y : BitVec 64) : evBin P .and t l (w64 x) (w64 y) = some (w64 (x &&& y)) := (bin_int (by decide)).trans (u_and (k := .u64) rfl x y)
theorem w64_or (x y : BitVec 64) : evBin P .or t l (w64 x) (w64 y) = some (w64 (x ||| y)) := (bin_int (by decide)).trans (u_or (k := .u64) rfl x y)
theorem w64_xor (x y : BitVec 64) : evBin P .xor t l (w64 x) (w64 y) = some (w64 (x ^^^ y)) := (bin_int (by decide)).trans (u_xor (k := .u64) rfl x y)
theorem w64_andNot (x y : BitVec 64) : evBin P .andNot t l (w64 x) (w64 y) = some (w64 (x &&& ~~~y)) := (bin_int (by decide)).trans (u_andNot (k := .u64) rfl x y)
theorem w64_quo (x y : BitVec 64) (h : y ≠ 0) : evBin P .quo t l (w64 x) (w64 y) = some (w64 (x / y)) := (bin_int (by decide)).trans (u_quo (k := .u64) rfl x y h)
theorem w64_eql (x y : BitVec 64) : evBin P .eql t l (w64 x) (w64 y) = some (.bool (decide (x = y))) := (bin_int (by decide)).trans (u_eql (k := .u64) x y)
theorem w64_neq (x y : BitVec 64) : evBin P .neq t l (w64 x) (w64 y) = some (.bool (!decide (x = y))) := (bin_int (by decide)).trans (u_neq (k := .u64) x y)
theorem w64_lss (x y : BitVec 64) : evBin P .lss t l (w64 x) (w64 y) = some (.bool (decide (x.toNat < y.toNat))) := (bin_int (by decide)).trans (u_lss (k := .u64) x y)
theorem w64_leq (x y : BitVec 64) : evBin P .leq t l (w64 x) (w64 y) = some (.bool (decide (x.toNat ≤ y.toNat))) := (bin_int (by decide)).trans (u_leq (k := .u64) x y)
theorem w64_gtr (x y : BitVec 64) : evBin P .gtr t l (w64 x) (w64 y) = some (.bool (decide (y.toNat < x.toNat))) := (bin_int (by decide)).trans (u_gtr (k := .u64) x y)
theorem w64_geq (x y : BitVec 64) : evBin P .geq t l (w64 x) (w64 y) = some (.bool (decide (y.toNat ≤ x.toNat))) := (bin_int (by decide)).trans (u_geq (k := .u64) x y)
theorem w64_shl (x : BitVec 64) (n : Nat) : evBin P .shl t l (w64 x) (iv n) = some (w64 (x <<< n)) := u_shl (k := .u64) rfl x n
theorem w64_shl8 (x : BitVec 64) (n : BitVec 8) : evBin P .shl t l (w64 x) (w8 n) = some (w64 (x <<< n.toNat)) := u_shl (k := .u64) rfl x n.toNat
theorem w64_shl32 (x : BitVec 64) (n : BitVec 32) : evBin P .shl t l (w64 x) (w32 n) = some (w64 (x <<< n.toNat)) := u_shl (k := .u64) rfl x n.toNat
theorem w64_shl64 (x : BitVec 64) (n : BitVec 64) : evBin P .shl t l (w64 x) (w64 n) = some (w64 (x <<< n.toNat)) := u_shl (k := .u64) rfl x n.toNat
theorem w64_shr (x : BitVec 64) (n : Nat) : evBin P .shr t l (w64 x) (iv n) = some (w64 (x >>> n)) := u_shr (k := .u64) rfl x n
theorem w64_shr8 (x : BitVec 64) (n : BitVec 8) : evBin P .shr t l (w64 x) (w8 n) = some (w64 (x >>> n.toNat)) := u_shr (k := .u64) rfl x n.toNat
theorem w64_shr32 (x : BitVec 64) (n : BitVec 32) : evBin P .shr t l (w64 x) (w32 n) = some (w64 (x >>> n.toNat)) := u_shr (k := .u64) rfl x n.toNat
theorem w64_shr64 (x : BitVec 64) (n : BitVec 64) : evBin P .shr t l (w64 x) (w64 n) = some (w64 (x >>> n.toNat)) := u_shr (k := .u64) rfl x n.toNat
theorem i64_nat (n : Nat) (h : n < 9223372036854775808) : IntKind.i64.wrap (n : Int) = n := by
  have e1 : (2 : Int) ^ IntKind.i64.bits = 18446744073709551616 := by decide
  have e2 : (2 : Int) ^ (IntKind.i64.bits - 1) = 9223372036854775808 := by decide
  unfold IntKind.wrap
  simp only [e1, e2, show IntKind.i64.signed = true from rfl, Bool.true_and, decide_eq_true_eq]
  split <;> omega
theorem iv_add (n m : Nat) (h : n + m < 9223372036854775808) : evBin P .add t l (iv n) (iv m) = some (iv (n + m)) := by
  refine (bin_int (by decide)).trans ?_
  show some (Value.int .i64 (IntKind.i64.wrap ((n : Int) + m))) = _
  rw [show (n : Int) + m = ((n + m : Nat) : Int) by simp, i64_nat _ h]; rfl
theorem iv_sub (n m : Nat) (h : m ≤ n) (hn : n < 9223372036854775808) : evBin P .sub t l (iv n) (iv m) = some (iv (n - m)) := by
  refine (bin_int (by decide)).trans ?_
  show some (Value.int .i64 (IntKind.i64.wrap ((n : Int) - m))) = _
  rw [show (n : Int) - m = ((n - m : Nat) : Int) by omega, i64_nat _ (by omega)]; rfl
theorem iv_mul (n m : Nat) (h : n * m < 9223372036854775808) : evBin P .mul t l (iv n) (iv m) = some (iv (n * m)) := by
  refine (bin_int (by decide)).trans ?_
  show some (Value.int .i64 (IntKind.i64.wrap ((n : Int) * m))) = _
  rw [show (n : Int) * m = ((n * m : Nat) : Int) by simp, i64_nat _ h]; rfl
theorem iv_quo (n m : Nat) (h : 0 < m) (hn : n < 9223372036854775808) : evBin P .quo t l (iv n) (iv m) = some (iv (n / m)) := by
  refine (bin_int (by decide)).trans ?_
  have h0 : ¬ ((m : Int) = 0) := by omega
  simp only [evIntOp, h0, if_false, Option.some.injEq]
  rw [Int.tdiv_eq_ediv_of_nonneg (by omega), show (n : Int) / m = ((n / m : Nat) : Int) by simp, i64_nat _ (Nat.lt_of_le_of_lt (Nat.div_le_self _ _) hn)]; rfl
theorem iv_rem (n m : Nat) (h : 0 < m) : evBin P .rem t l (iv n) (iv m) = some (iv (n % m)) := by
  refine (bin_int (by decide)).trans ?_
  have h0 : ¬ ((m : Int) = 0) := by omega
  simp only [evIntOp, h0, if_false, Option.some.injEq]
  rw [Int.tmod_eq_emod_of_nonneg (by omega), show (n : Int) % m = ((n % m : Nat) : Int) by simp]; rfl
theorem iv_eql (n m : Nat) : evBin P .eql t l (iv n) (iv m) = some (.bool (decide (n = m))) := by
  refine (bin_int (by decide)).trans ?_
  simp only [evIntOp, Option.some.injEq, Value.bool.injEq]
  by_cases h : n = m
  · simp [h]
  · have : ((n : Int) == m) = false := by simp; omega
    simp [h, this]
theorem iv_neq (n m : Nat) : evBin P .neq t l (iv n) (iv m) = some (.bool (!decide (n = m))) := by
  refine (bin_int (by decide)).trans ?_
  simp only [evIntOp, Option.some.injEq, Value.bool.injEq]
  by_cases h : n = m
  · simp [h]
  · have : ((n : Int) == m) = false := by simp; omega
    simp [h, this, bne]
theorem iv_lss (n m : Nat) : evBin P .lss t l (iv n) (iv m) = some (.bool (decide (n < m))) := by
  refine (bin_int (by decide)).trans ?_
  simp [evIntOp]
theorem iv_leq (n m : Nat) : evBin P .leq t l (iv n) (iv m) = some (.bool (decide (n ≤ m))) := by
  refine (bin_int (by decide)).trans ?_
  simp [evIntOp]
theorem iv_gtr (n m : Nat) : evBin P .gtr t l (iv n) (iv m) = some (.bool (decide (m < n))) := by
  refine (bin_int (by decide)).trans ?_
  simp [evIntOp]
theorem iv_geq (n m : Nat) : evBin P .geq t l (iv n) (iv m) = some (.bool (decide (m ≤ n))) := by
  refine (bin_int (by decide)).trans ?_
  simp [evIntOp]
theorem iv_shl (x n : Nat) (h : x * 2 ^ n < 9223372036854775808) (hn : n ≤ 64) : evBin P .shl t l (iv x) (iv n) = some (iv (x * 2 ^ n)) := by
  show evShift .shl .i64 (x : Int) (n : Int) = _
  have h0 : ¬ ((n : Int) < 0) := by omega
  simp only [evShift, h0, if_false, Option.some.injEq, Int.toNat_natCast]
  rw [show min n IntKind.i64.bits = n from Nat.min_eq_left hn, show (x : Int) * 2 ^ n = ((x * 2 ^ n : Nat) : Int) by simp, i64_nat _ h]; rfl
theorem iv_shr (x n : Nat) (hx : x < 9223372036854775808) : evBin P .shr t l (iv x) (iv n) = some (iv (x / 2 ^ n)) := by
  show evShift .shr .i64 (x : Int) (n : Int) = _
  have h0 : ¬ ((n : Int) < 0) := by omega
  simp only [evShift, h0, if_false, Option.some.injEq, Int.toNat_natCast]
  have hb : IntKind.i64.bits = 64 := rfl
  rw [Int.fdiv_eq_ediv_of_nonneg _ (by simp [Int.pow_nonneg]), show (x : Int) / 2 ^ (min n IntKind.i64.bits) = ((x / 2 ^ (min n IntKind.i64.bits) : Nat) : Int) by simp]
  unfold iv
  congr 2
  by_cases hn : n ≤ 64
  · rw [hb, Nat.min_eq_left hn]
  · rw [hb, Nat.min_eq_right (by omega), Nat.div_eq_of_lt (by omega), Nat.div_eq_of_lt]
    exact Nat.lt_of_lt_of_le hx (Nat.le_trans (by decide : 9223372036854775808 ≤ 2 ^ 63) (Nat.pow_le_pow_right (by omega) (by omega)))
theorem b_eql (a b : Bool) (hb : P.underlying t = some .bool) : evBin P .eql t l (.bool a) (.bool b) = some (.bool (a == b)) := by
  have : eqOk P t l (.bool a) (.bool b) = true := rfl
  simp only [evBin, this, if_true]
  show (evEq P (_ + 1) t _ _).map _ = _
  simp [evEq, hb]
end

section
variable {P : Program}
theorem un_not (b : Bool) : evUn .not (.bool b) = some (.bool !b) := rfl
theorem w8_not (x : BitVec 8) : evUn .xor (w8 x) = some (w8 (~~~x)) := by
  refine (u_xor (k := .u8) rfl (BitVec.allOnes 8) x).trans (congrArg (fun y => some (w8 y)) (BitVec.allOnes_xor (x := x)))
theorem w32_not (x : BitVec 32) : evUn .xor (w32 x) = some (w32 (~~~x)) := by
  refine (u_xor (k := .u32) rfl (BitVec.allOnes 32) x).trans (congrArg (fun y => some (w32 y)) (BitVec.allOnes_xor (x := x)))
theorem w64_not (x : BitVec 64) : evUn .xor (w64 x) = some (w64 (~~~x)) := by
  refine (u_xor (k := .u64) rfl (BitVec.allOnes 64) x).trans (congrArg (fun y => some (w64 y)) (BitVec.allOnes_xor (x := x)))

theorem w8_neg (x : BitVec 8) : evUn .neg (w8 x) = some (w8 (-x)) :=
  (u_sub (k := .u8) rfl (0 : BitVec 8) x).trans (congrArg (fun y => some (w8 y)) (by simp : (0 : BitVec 8) - x = -x))
theorem w32_neg (x : BitVec 32) : evUn .neg (w32 x) = some (w32 (-x)) :=
  (u_sub (k := .u32) rfl (0 : BitVec 32) x).trans (congrArg (fun y => some (w32 y)) (by simp : (0 : BitVec 32) - x = -x))
theorem w64_neg (x : BitVec 64) : evUn .neg (w64 x) = some (w64 (-x)) :=
  (u_sub (k := .u64) rfl (0 : BitVec 64) x).trans (congrArg (fun y => some (w64 y)) (by simp : (0 : BitVec 64) - x = -x))

theorem cv_eq {s d : TypeId} {k k' : IntKind} {n : Int} {h : Heap} {sd : TypeDesc} (hs : P.underlying s = some sd) (hd : P.underlying d = some (.int k)) : evConvert P s d (.int k' n) h = some (.int k (k.wrap n), h) := by
  unfold evConvert; rw [hs, hd]
theorem cv8_8 {s d : TypeId} {x : BitVec 8} {h : Heap} {sd : TypeDesc} (hs : P.underlying s = some sd) (hd : P.underlying d = some (.int .u8)) : evConvert P s d (w8 x) h = some (w8 (x.setWidth 8), h) := by
  refine (cv_eq hs hd).trans ?_
  rw [wrapU_nat rfl]; unfold w8; rw [BitVec.toNat_setWidth]; rfl
theorem cv8_32 {s d : TypeId} {x : BitVec 8} {h : Heap} {sd : TypeDesc} (hs : P.underlying s = some sd) (hd : P.underlying d = some (.int .u32)) : evConvert P s d (w8 x) h = some (w32 (x.setWidth 32), h) := by
  refine (cv_eq hs hd).trans ?_
  rw [wrapU_nat rfl]; unfold w32; rw [BitVec.toNat_setWidth]; rfl
theorem cv8_64 {s d : TypeId} {x : BitVec 8} {h : Heap} {sd : TypeDesc} (hs : P.underlying s = some sd) (hd : P.underlying d = some (.int .u64)) : evConvert P s d (w8 x) h = some (w64 (x.setWidth 64), h) := by
  refine (cv_eq hs hd).trans ?_
  rw [wrapU_nat rfl]; unfold w64; rw [BitVec.toNat_setWidth]; rfl
theorem cv8_i {s d : TypeId} {x : BitVec 8} {h : Heap} {sd : TypeDesc} (hs : P.underlying s = some sd) (hd : P.underlying d = some (.int .i64)) (hx : x.toNat < 9223372036854775808) : evConvert P s d (w8 x) h = some (iv x.toNat, h) := by
  refine (cv_eq hs hd).trans ?_
  rw [i64_nat _ hx]; rfl
theorem cvi_8 {s d : TypeId} {n : Nat} {h : Heap} {sd : TypeDesc} (hs : P.underlying s = some sd) (hd : P.underlying d = some (.int .u8)) : evConvert P s d (iv n) h = some (w8 (BitVec.ofNat 8 n), h) := by
  refine (cv_eq hs hd).trans ?_
  rw [wrapU_nat rfl]; unfold w8; rw [BitVec.toNat_ofNat]; rfl
theorem cv32_8 {s d : TypeId} {x : BitVec 32} {h : Heap} {sd : TypeDesc} (hs : P.underlying s = some sd) (hd : P.underlying d = some (.int .u8)) : evConvert P s d (w32 x) h = some (w8 (x.setWidth 8), h) := by
  refine (cv_eq hs hd).trans ?_
  rw [wrapU_nat rfl]; unfold w8; rw [BitVec.toNat_setWidth]; rfl
theorem cv32_32 {s d : TypeId} {x : BitVec 32} {h : Heap} {sd : TypeDesc} (hs : P.underlying s = some sd) (hd : P.underlying d = some (.int .u32)) : evConvert P s d (w32 x) h = some (w32 (x.setWidth 32), h) := by
  refine (cv_eq hs hd).trans ?_
  rw [wrapU_nat rfl]; unfold w32; rw [BitVec.toNat_setWidth]; rfl
theorem cv32_64 {s d : TypeId} {x : BitVec 32} {h : Heap} {sd : TypeDesc} (hs : P.underlying s = some sd) (hd : P.underlying d = some (.int .u64)) : evConvert P s d (w32 x) h = some (w64 (x.setWidth 64), h) := by
  refine (cv_eq hs hd).trans ?_
  rw [wrapU_nat rfl]; unfold w64; rw [BitVec.toNat_setWidth]; rfl
theorem cv32_i {s d : TypeId} {x : BitVec 32} {h : Heap} {sd : TypeDesc} (hs : P.underlying s = some sd) (hd : P.underlying d = some (.int .i64)) (hx : x.toNat < 9223372036854775808) : evConvert P s d (w32 x) h = some (iv x.toNat, h) := by
  refine (cv_eq hs hd).trans ?_
  rw [i64_nat _ hx]; rfl
theorem cvi_32 {s d : TypeId} {n : Nat} {h : Heap} {sd : TypeDesc} (hs : P.underlying s = some sd) (hd : P.underlying d = some (.int .u32)) : evConvert P s d (iv n) h = some (w32 (BitVec.ofNat 32 n), h) := by
  refine (cv_eq hs hd).trans ?_
  rw [wrapU_nat rfl]; unfold w32; rw [BitVec.toNat_ofNat]; rfl
theorem cv64_8 {s d : TypeId} {x : BitVec 64} {h : Heap} {sd : TypeDesc} (hs : P.underlying s = some sd) (hd : P.underlying d = some (.int .u8)) : evConvert P s d (w64 x) h = some (w8 (x.setWidth 8), h) := by
  refine (cv_eq hs hd).trans ?_
  rw [wrapU_nat rfl]; unfold w8; rw [BitVec.toNat_setWidth]; rfl
theorem cv64_32 {s d : TypeId} {x : BitVec 64} {h : Heap} {sd : TypeDesc} (hs : P.underlying s = some sd) (hd : P.underlying d = some (.int .u32)) : evConvert P s d (w64 x) h = some (w32 (x.setWidth 32), h) := by
  refine (cv_eq hs hd).trans ?_
  rw [wrapU_nat rfl]; unfold w32; rw [BitVec.toNat_setWidth]; rfl
theorem cv64_64 {s d : TypeId} {x : BitVec 64} {h : Heap} {sd : TypeDesc} (hs : P.underlying s = some sd) (hd : P.underlying d = some (.int .u64)) : evConvert P s d (w64 x) h = some (w64 (x.setWidth 64), h) := by
  refine (cv_eq hs hd).trans ?_
  rw [wrapU_nat rfl]; unfold w64; rw [BitVec.toNat_setWidth]; rfl
theorem cv64_i {s d : TypeId} {x : BitVec 64} {h : Heap} {sd : TypeDesc} (hs : P.underlying s = some sd) (hd : P.underlying d = some (.int .i64)) (hx : x.toNat < 9223372036854775808) : evConvert P s d (w64 x) h = some (iv x.toNat, h) := by
  refine (cv_eq hs hd).trans ?_
  rw [i64_nat _ hx]; rfl
theorem cvi_64 {s d : TypeId} {n : Nat} {h : Heap} {sd : TypeDesc} (hs : P.underlying s = some sd) (hd : P.underlying d = some (.int .u64)) : evConvert P s d (iv n) h = some (w64 (BitVec.ofNat 64 n), h) := by
  refine (cv_eq hs hd).trans ?_
  rw [wrapU_nat rfl]; unfold w64; rw [BitVec.toNat_ofNat]; rfl
theorem cvi_i {s d : TypeId} {n : Nat} {h : Heap} {sd : TypeDesc} (hs : P.underlying s = some sd) (hd : P.underlying d = some (.int .i64)) (hx : n < 9223372036854775808) : evConvert P s d (iv n) h = some (iv n, h) := by
  refine (cv_eq hs hd).trans ?_
  rw [i64_nat _ hx]; rfl
end
end Go.Proofs.Ytfehhihllenjiaa
