/- One-time tags: numbers of bytes and words, plain. -/
import Derived.Test.YtfehhihllenjiaaS9
set_option linter.all false
namespace Go.Proofs.Ytfehhihllenjiaa
open Go.Proofs
/-- A row of bytes as a number, the lowest first. -/
def leN : List (BitVec 8) → Nat
  | [] => 0
  | x :: l => x.toNat + 256 * leN l
theorem leN_cons (x : BitVec 8) (l : List (BitVec 8)) : leN (x :: l) = x.toNat + 256 * leN l := rfl
theorem leN_append (a b : List (BitVec 8)) : leN (a ++ b) = leN a + 256 ^ a.length * leN b := by
  induction a with
  | nil => simp [leN]
  | cons x l ih => rw [List.cons_append, leN_cons, leN_cons, ih, List.length_cons, Nat.pow_succ, Nat.mul_add, ← Nat.mul_assoc, Nat.mul_comm 256 (256 ^ l.length)]; omega
theorem leN_one (x : BitVec 8) : leN [x] = x.toNat := by simp [leN]
theorem leN_snoc (a : List (BitVec 8)) (x : BitVec 8) : leN (a ++ [x]) = leN a + 256 ^ a.length * x.toNat := by rw [leN_append, leN_one]
theorem leN_lt (a : List (BitVec 8)) : leN a < 256 ^ a.length := by
  induction a with
  | nil => simp [leN]
  | cons x l ih =>
    rw [leN_cons, List.length_cons, Nat.pow_succ]
    have := x.isLt
    omega
theorem leN_zeros (n : Nat) : leN (List.replicate n 0#8) = 0 := by
  induction n with
  | zero => rfl
  | succ n ih => rw [List.replicate_succ, leN_cons, ih]; rfl
/-- The lowest k bytes of a number. -/
def leB (n : Nat) : Nat → List (BitVec 8)
  | 0 => []
  | k + 1 => BitVec.ofNat 8 n :: leB (n / 256) k
theorem leB_zero (n : Nat) : leB n 0 = [] := rfl
theorem leB_succ (n k : Nat) : leB n (k + 1) = BitVec.ofNat 8 n :: leB (n / 256) k := rfl
theorem leB_length (n k : Nat) : (leB n k).length = k := by
  induction k generalizing n with
  | zero => rfl
  | succ k ih => rw [leB_succ, List.length_cons, ih]
theorem leB_get (n : Nat) : ∀ (k i : Nat), i < k → (leB n k)[i]? = some (BitVec.ofNat 8 (n / 256 ^ i)) := by
  intro k
  induction k generalizing n with
  | zero => intro i hi; omega
  | succ k ih =>
    intro i hi
    cases i with
    | zero => rw [leB_succ, Nat.pow_zero, Nat.div_one]; rfl
    | succ i => rw [leB_succ, List.getElem?_cons_succ, ih _ _ (by omega), Nat.div_div_eq_div_mul, Nat.pow_succ, Nat.mul_comm 256]
theorem leB_snoc (n k : Nat) : leB n (k + 1) = leB n k ++ [BitVec.ofNat 8 (n / 256 ^ k)] := by
  induction k generalizing n with
  | zero => rw [leB_succ, leB_zero, leB_zero, Nat.pow_zero, Nat.div_one]; rfl
  | succ k ih => rw [leB_succ, ih, leB_succ, Nat.div_div_eq_div_mul, Nat.pow_succ, Nat.mul_comm 256]; rfl
theorem add64_sum (x y c : BitVec 64) : (x + y + c).toNat = (x.toNat + y.toNat + c.toNat) % 18446744073709551616 := by
  rw [BitVec.toNat_add, BitVec.toNat_add]; omega
/-- Products of words. -/
theorem low32 (x : BitVec 64) : (x &&& 4294967295#64).toNat = x.toNat % 4294967296 := by
  rw [BitVec.toNat_and]
  exact Nat.and_two_pow_sub_one_eq_mod x.toNat 32
theorem high32 (x : BitVec 64) : (x >>> 32).toNat = x.toNat / 4294967296 := by
  rw [BitVec.toNat_ushiftRight, Nat.shiftRight_eq_div_pow]
def mulHi (x y : BitVec 64) : BitVec 64 :=
  (x >>> 32) * (y >>> 32) + (((x >>> 32) * (y &&& 4294967295#64) + ((x &&& 4294967295#64) * (y &&& 4294967295#64)) >>> 32) >>> 32) + ((((x >>> 32) * (y &&& 4294967295#64) + ((x &&& 4294967295#64) * (y &&& 4294967295#64)) >>> 32) &&& 4294967295#64) + (x &&& 4294967295#64) * (y >>> 32)) >>> 32
theorem prod_le {a b m : Nat} (ha : a ≤ m) (hb : b ≤ m) : a * b ≤ m * m := Nat.mul_le_mul ha hb
theorem mul64 (x y : BitVec 64) : (x * y).toNat + 18446744073709551616 * (mulHi x y).toNat = x.toNat * y.toNat := by
  have hx := x.isLt
  have hy := y.isLt
  have e : (mulHi x y).toNat = x.toNat * y.toNat / 18446744073709551616 := by
    unfold mulHi
    simp only [BitVec.toNat_add, BitVec.toNat_mul, high32, low32]
    generalize x.toNat = X at *
    generalize y.toNat = Y at *
    have dx : X = 4294967296 * (X / 4294967296) + X % 4294967296 := by omega
    have dy : Y = 4294967296 * (Y / 4294967296) + Y % 4294967296 := by omega
    have b1 : X / 4294967296 ≤ 4294967295 := by omega
    have b2 : Y / 4294967296 ≤ 4294967295 := by omega
    have b3 : X % 4294967296 ≤ 4294967295 := by omega
    have b4 : Y % 4294967296 ≤ 4294967295 := by omega
    have hxy : X * Y = 18446744073709551616 * (X / 4294967296 * (Y / 4294967296)) + 4294967296 * (X / 4294967296 * (Y % 4294967296)) + 4294967296 * (X % 4294967296 * (Y / 4294967296)) + X % 4294967296 * (Y % 4294967296) := by
      conv => lhs; rw [dx, dy]
      simp only [Nat.add_mul, Nat.mul_add]
      have t1 : ∀ a b : Nat, 4294967296 * a * (4294967296 * b) = 18446744073709551616 * (a * b) := fun a b => by
        rw [show (18446744073709551616 : Nat) = 4294967296 * 4294967296 from rfl, Nat.mul_mul_mul_comm]
      have t2 : ∀ a b : Nat, 4294967296 * a * b = 4294967296 * (a * b) := fun a b => Nat.mul_assoc _ _ _
      have t3 : ∀ a b : Nat, a * (4294967296 * b) = 4294967296 * (a * b) := fun a b => Nat.mul_left_comm _ _ _
      rw [t1, t2, t3]; omega
    rw [hxy]
    have p1 := prod_le b1 b2
    have p2 := prod_le b1 b4
    have p3 := prod_le b3 b2
    have p4 := prod_le b3 b4
    generalize X / 4294967296 * (Y / 4294967296) = A at *
    generalize X / 4294967296 * (Y % 4294967296) = B at *
    generalize X % 4294967296 * (Y / 4294967296) = C at *
    generalize X % 4294967296 * (Y % 4294967296) = D at *
    clear dx dy hxy b1 b2 b3 b4
    omega
  rw [e, BitVec.toNat_mul]
  omega
/-- Words of a number. -/
def N2 (a b : BitVec 64) : Nat := a.toNat + 18446744073709551616 * b.toNat
def N3 (a b c : BitVec 64) : Nat := a.toNat + 18446744073709551616 * b.toNat + 340282366920938463463374607431768211456 * c.toNat
def P130 : Nat := 1361129467683753853853498429727072845819
def Q130 : Nat := 1361129467683753853853498429727072845824
/-- Eight bytes as a word. -/
def lowW (b : List (BitVec 8)) : BitVec 64 := BitVec.ofNat 64 (leN b)
theorem lowW_toNat {b : List (BitVec 8)} (hl : b.length ≤ 8) : (lowW b).toNat = leN b := by
  have h1 := leN_lt b
  have h2 : 256 ^ b.length ≤ 256 ^ 8 := Nat.pow_le_pow_right (by decide) hl
  rw [lowW, BitVec.toNat_ofNat, Nat.mod_eq_of_lt]
  have : (256 : Nat) ^ 8 = 2 ^ 64 := by decide
  omega
theorem low_step (b : List (BitVec 8)) (i : Nat) (hi : i < b.length) (hl : b.length ≤ 8) : BitVec.ofNat 64 (leN (b.take i)) ||| ((b.getD i 0#8).setWidth 64 <<< (8 * i)) = BitVec.ofNat 64 (leN (b.take (i + 1))) := by
  have h1 := leN_lt (b.take i)
  have hli : (b.take i).length = i := by rw [List.length_take]; omega
  rw [hli] at h1
  have e8 : (256 : Nat) ^ i = 2 ^ (8 * i) := by rw [Nat.pow_mul]
  have hx := (b.getD i 0#8).isLt
  have e2 : leN (b.take (i + 1)) = leN (b.take i) + 2 ^ (8 * i) * (b.getD i 0#8).toNat := by
    rw [List.take_succ, List.getElem?_eq_getElem hi, Option.toList_some, leN_snoc, hli, e8, List.getD_eq_getElem?_getD, List.getElem?_eq_getElem hi]
    rfl
  have hb : leN (b.take (i + 1)) < 2 ^ 64 := by
    have h3 := leN_lt (b.take (i + 1))
    have h4 : 256 ^ (b.take (i + 1)).length ≤ 256 ^ 8 := Nat.pow_le_pow_right (by decide) (by rw [List.length_take]; omega)
    have : (256 : Nat) ^ 8 = 2 ^ 64 := by decide
    omega
  have hb1 : leN (b.take i) < 2 ^ 64 := by
    have : leN (b.take i) ≤ leN (b.take (i + 1)) := by rw [e2]; exact Nat.le_add_right _ _
    omega
  have hb2 : 2 ^ (8 * i) * (b.getD i 0#8).toNat < 2 ^ 64 := by
    have : 2 ^ (8 * i) * (b.getD i 0#8).toNat ≤ leN (b.take (i + 1)) := by rw [e2]; exact Nat.le_add_left _ _
    omega
  rw [e8] at h1
  apply BitVec.eq_of_toNat_eq
  rw [BitVec.toNat_or, BitVec.toNat_ofNat, BitVec.toNat_ofNat, BitVec.toNat_shiftLeft, BitVec.toNat_setWidth, Nat.mod_eq_of_lt hb, Nat.mod_eq_of_lt hb1, Nat.mod_eq_of_lt (show (b.getD i 0#8).toNat < 2 ^ 64 by omega), Nat.shiftLeft_eq, Nat.mul_comm, Nat.mod_eq_of_lt hb2, Nat.or_comm, ← Nat.two_pow_add_eq_or_of_lt h1, e2, Nat.add_comm]
/-- The first half of a key as it multiplies. -/
def clampAt (i : Nat) (x : BitVec 8) : BitVec 8 := if i % 4 = 3 then x &&& 15#8 else if i % 4 = 0 ∧ 0 < i then x &&& ~~~3#8 else x
def clampB (k : List (BitVec 8)) : List (BitVec 8) := (List.range 16).map fun i => clampAt i (k.getD i 0#8)
theorem clampB_length (k : List (BitVec 8)) : (clampB k).length = 16 := by simp [clampB]
theorem clampB_get (k : List (BitVec 8)) {i : Nat} (hi : i < 16) : (clampB k).getD i 0#8 = clampAt i (k.getD i 0#8) := by
  unfold clampB
  rw [List.getD_eq_getElem?_getD, List.getElem?_map, List.getElem?_range hi]
  rfl
theorem clampB_lt (k : List (BitVec 8)) : leN (clampB k) < 21267647932558653966460912964485513216 := by
  have e : clampB k = ((List.range 15).map fun i => clampAt i (k.getD i 0#8)) ++ [clampAt 15 (k.getD 15 0#8)] := by
    unfold clampB
    rw [show (16 : Nat) = 15 + 1 from rfl, List.range_succ, List.map_append]
    rfl
  have h1 := leN_lt ((List.range 15).map fun i => clampAt i (k.getD i 0#8))
  rw [List.length_map, List.length_range] at h1
  have h2 : (clampAt 15 (k.getD 15 0#8)).toNat ≤ 15 := by
    show (k.getD 15 0#8 &&& 15#8).toNat ≤ 15
    rw [BitVec.toNat_and]
    exact Nat.and_le_right
  rw [e, leN_snoc, List.length_map, List.length_range]
  have : (256 : Nat) ^ 15 = 1329227995784915872903807060280344576 := by decide
  omega
/-- The j-th sixteen bytes. -/
def blkP (b : List (BitVec 8)) (j : Nat) : List (BitVec 8) := (b.drop (16 * j)).take 16
def polyA (r : Nat) (b : List (BitVec 8)) : Nat → Nat
  | 0 => 0
  | j + 1 => (polyA r b j + leN (blkP b j ++ [1#8])) * r % P130
theorem polyA_zero (r : Nat) (b : List (BitVec 8)) : polyA r b 0 = 0 := rfl
theorem polyA_succ (r : Nat) (b : List (BitVec 8)) (j : Nat) : polyA r b (j + 1) = (polyA r b j + leN (blkP b j ++ [1#8])) * r % P130 := rfl
def polyN (b : List (BitVec 8)) : Nat := (b.length + 15) / 16
/-- The tag. -/
def polyT (k b : List (BitVec 8)) : List (BitVec 8) := leB (polyA (leN (clampB k)) b (polyN b) + leN ((k.drop 16).take 16)) 16
theorem polyT_length (k b : List (BitVec 8)) : (polyT k b).length = 16 := leB_length _ _
theorem polyA_lt (r : Nat) (b : List (BitVec 8)) (j : Nat) : polyA r b j < P130 := by
  cases j with
  | zero => rw [polyA_zero]; decide
  | succ j => rw [polyA_succ]; exact Nat.mod_lt _ (by decide)
theorem blk_lt (b : List (BitVec 8)) (j : Nat) : leN (blkP b j ++ [1#8]) < 680564733841876926926749214863536422912 := by
  have h := leN_lt (blkP b j ++ [1#8])
  have hl : (blkP b j).length ≤ 16 := by simp [blkP]; omega
  have h1 := leN_lt (blkP b j)
  rw [leN_snoc]
  have h2 : (256 : Nat) ^ (blkP b j).length ≤ 256 ^ 16 := Nat.pow_le_pow_right (by decide) hl
  have e : (256 : Nat) ^ 16 = 340282366920938463463374607431768211456 := by decide
  have : (1#8 : BitVec 8).toNat = 1 := rfl
  rw [this]
  omega
end Go.Proofs.Ytfehhihllenjiaa
