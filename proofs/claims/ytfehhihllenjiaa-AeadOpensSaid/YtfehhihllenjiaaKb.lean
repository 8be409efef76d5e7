/- One-time tags: sums of digits, and what folding keeps. -/
import Derived.Test.YtfehhihllenjiaaKa
set_option linter.all false
namespace Go.Proofs.Ytfehhihllenjiaa
open Go.Proofs
theorem shr2 (x : BitVec 64) : (x >>> 2).toNat = x.toNat / 4 := by
  rw [BitVec.toNat_ushiftRight, Nat.shiftRight_eq_div_pow]
theorem and3 (x : BitVec 64) : (x &&& 3#64).toNat = x.toNat % 4 := by
  rw [BitVec.toNat_and]
  exact Nat.and_two_pow_sub_one_eq_mod x.toNat 2
theorem join62 (x y : BitVec 64) : ((x >>> 2) ||| (y <<< 62)).toNat = x.toNat / 4 + y.toNat % 4 * 4611686018427387904 := by
  have hx := x.isLt
  have hy := y.isLt
  rw [BitVec.toNat_or, shr2, BitVec.toNat_shiftLeft, Nat.shiftLeft_eq]
  have e : y.toNat * 2 ^ 62 % 2 ^ 64 = 2 ^ 62 * (y.toNat % 4) := by omega
  rw [e, Nat.or_comm, ← Nat.two_pow_add_eq_or_of_lt (by omega)]
  omega
theorem times_mod {V L A : Nat} (h : V = L + Q130 * A) : (L + 5 * A) % P130 = V % P130 := by
  have : V = L + 5 * A + P130 * A := by rw [h]; unfold P130 Q130; omega
  rw [this, Nat.add_mul_mod_self_left]
/-- One more product is added. -/
theorem madd {a b k p lo hi lo1 c1 p1 c2 : BitVec 64} (hm : lo.toNat + 18446744073709551616 * hi.toNat = a.toNat * b.toNat) (h1 : lo1.toNat + 18446744073709551616 * c1.toNat = lo.toNat + k.toNat) (h2 : p1.toNat + 18446744073709551616 * c2.toNat = p.toNat + lo1.toNat) :
    p1.toNat + 18446744073709551616 * (hi + c1 + c2).toNat = a.toNat * b.toNat + k.toNat + p.toNat := by
  have hp : a.toNat * b.toNat ≤ 18446744073709551615 * 18446744073709551615 := Nat.mul_le_mul (by have := a.isLt; omega) (by have := b.isLt; omega)
  have hk := k.isLt
  have hpp := p.isLt
  have hl := lo1.isLt
  rw [BitVec.toNat_add, BitVec.toNat_add]
  generalize a.toNat * b.toNat = M at *
  omega
/-- A row of numbers, the lowest first. -/
def leV : List Nat → Nat
  | [] => 0
  | x :: l => x + 256 * leV l
theorem leV_nil : leV [] = 0 := rfl
theorem leV_cons (x : Nat) (l : List Nat) : leV (x :: l) = x + 256 * leV l := rfl
theorem leV_append (a b : List Nat) : leV (a ++ b) = leV a + 256 ^ a.length * leV b := by
  induction a with
  | nil => simp [leV]
  | cons x l ih => rw [List.cons_append, leV_cons, leV_cons, ih, List.length_cons, Nat.pow_succ, Nat.mul_add, ← Nat.mul_assoc, Nat.mul_comm 256 (256 ^ l.length)]; omega
theorem leV_snoc (a : List Nat) (x : Nat) : leV (a ++ [x]) = leV a + 256 ^ a.length * x := by rw [leV_append, leV_cons, leV_nil, Nat.mul_zero, Nat.add_zero]
theorem leV_bytes (a : List (BitVec 8)) : leV (a.map BitVec.toNat) = leN a := by
  induction a with
  | nil => rfl
  | cons x l ih => rw [List.map_cons, leV_cons, ih, leN_cons]
theorem leV_lt {a : List Nat} (h : ∀ x ∈ a, x < 256) : leV a < 256 ^ a.length := by
  induction a with
  | nil => simp [leV]
  | cons x l ih =>
    have h1 := h x List.mem_cons_self
    have h2 := ih (fun y hy => h y (List.mem_cons_of_mem _ hy))
    rw [leV_cons, List.length_cons, Nat.pow_succ]
    omega
theorem leV_zeros (n : Nat) : leV (List.replicate n 0) = 0 := by
  induction n with
  | zero => rfl
  | succ n ih => rw [List.replicate_succ, leV_cons, ih]
theorem leV_set (l : List Nat) (k d : Nat) (hk : k < l.length) : leV (l.set k (l.getD k 0 + d)) = leV l + 256 ^ k * d := by
  induction l generalizing k with
  | nil => exact absurd hk (by simp)
  | cons x l ih =>
    cases k with
    | zero => rw [List.set_cons_zero, leV_cons, leV_cons, Nat.pow_zero, Nat.one_mul]; show x + d + _ = _; omega
    | succ k =>
      rw [List.set_cons_succ, leV_cons, leV_cons]
      have := ih k (by simpa using hk)
      rw [show (x :: l).getD (k + 1) 0 = l.getD k 0 from rfl, this, Nat.pow_succ, Nat.mul_add, ← Nat.mul_assoc, Nat.mul_comm 256 (256 ^ k)]
      omega
theorem leV_take_succ (l : List Nat) (i : Nat) (hi : i < l.length) : leV (l.take (i + 1)) = leV (l.take i) + 256 ^ i * l.getD i 0 := by
  have hl : (l.take i).length = i := by rw [List.length_take]; omega
  rw [List.take_succ, List.getElem?_eq_getElem hi, Option.toList_some, leV_snoc, hl, List.getD_eq_getElem?_getD, List.getElem?_eq_getElem hi]
  rfl
/-- Numbers by their digits, whatever these are. -/
def dsum (d : Nat → Nat) : Nat → Nat
  | 0 => 0
  | i + 1 => dsum d i + d i * 256 ^ i
theorem dsum_succ (d : Nat → Nat) (i : Nat) : dsum d (i + 1) = dsum d i + d i * 256 ^ i := rfl
theorem dsum_leV (l : List Nat) : ∀ n, l.length ≤ n → dsum (fun i => l.getD i 0) n = leV l := by
  have key : ∀ i, i ≤ l.length → dsum (fun i => l.getD i 0) i = leV (l.take i) := by
    intro i
    induction i with
    | zero => intro _; rfl
    | succ i ih => intro hi; rw [dsum_succ, ih (by omega), leV_take_succ _ _ (by omega), Nat.mul_comm]
  intro n hn
  obtain ⟨k, rfl⟩ : ∃ k, n = l.length + k := ⟨n - l.length, by omega⟩
  induction k with
  | zero => rw [Nat.add_zero, key _ (Nat.le_refl _), List.take_length]
  | succ k ih =>
    rw [show l.length + (k + 1) = l.length + k + 1 from rfl, dsum_succ, ih (by omega)]
    have : l.getD (l.length + k) 0 = 0 := by rw [List.getD_eq_getElem?_getD, List.getElem?_eq_none (by omega)]; rfl
    rw [this]; omega
theorem dsum_add (d e : Nat → Nat) (n : Nat) : dsum (fun i => d i + e i) n = dsum d n + dsum e n := by
  induction n with
  | zero => rfl
  | succ n ih => rw [dsum_succ, dsum_succ, dsum_succ, ih, Nat.add_mul]; omega
theorem dsum_congr {d e : Nat → Nat} : ∀ n, (∀ i, i < n → d i = e i) → dsum d n = dsum e n := by
  intro n
  induction n with
  | zero => intro _; rfl
  | succ n ih => intro h; rw [dsum_succ, dsum_succ, ih (fun i hi => h i (by omega)), h n (by omega)]
theorem dsum_bytes (b : List (BitVec 8)) {n : Nat} (hn : b.length ≤ n) : dsum (fun i => (b.getD i 0#8).toNat) n = leN b := by
  rw [← leV_bytes, ← dsum_leV (b.map BitVec.toNat) n (by rw [List.length_map]; exact hn)]
  apply dsum_congr
  intro i _
  rw [List.getD_eq_getElem?_getD, List.getD_eq_getElem?_getD, List.getElem?_map]
  cases b[i]? <;> rfl
/-- A number and one more, of three words. -/
theorem add3 {w0 w1 w2 a b c s0 c0 s1 c1 : BitVec 64} (h0 : s0.toNat + 18446744073709551616 * c0.toNat = w0.toNat + a.toNat) (h1 : s1.toNat + 18446744073709551616 * c1.toNat = w1.toNat + b.toNat + c0.toNat) (hl : N3 w0 w1 w2 + N3 a b c < 6277101735386680763835789423207666416102355444464034512896) :
    N3 s0 s1 (w2 + (c + c1)) = N3 w0 w1 w2 + N3 a b c := by
  unfold N3 at *
  rw [BitVec.toNat_add, BitVec.toNat_add]
  have := s0.isLt
  have := s1.isLt
  omega
theorem split130 (p0 p1 p2 p3 p4 : BitVec 64) : p0.toNat + 18446744073709551616 * p1.toNat + 340282366920938463463374607431768211456 * p2.toNat + 6277101735386680763835789423207666416102355444464034512896 * p3.toNat + 115792089237316195423570985008687907853269984665640564039457584007913129639936 * p4.toNat =
    N3 p0 p1 (p2 &&& 3#64) + Q130 * N3 ((p2 >>> 2) ||| (p3 <<< 62)) ((p3 >>> 2) ||| (p4 <<< 62)) (p4 >>> 2) := by
  unfold N3 Q130
  rw [join62, join62, shr2, and3]
  omega
theorem N3_top (a b c : BitVec 64) : ((c >>> 2) = 0#64) ↔ N3 a b c < Q130 := by
  have ha := a.isLt
  have hb := b.isLt
  constructor
  · intro h
    have := congrArg BitVec.toNat h
    rw [shr2] at this
    have h0 : (0#64).toNat = 0 := rfl
    rw [h0] at this
    unfold N3 Q130; omega
  · intro h
    apply BitVec.eq_of_toNat_eq
    rw [shr2]
    unfold N3 Q130 at h
    show _ = 0
    omega
theorem N3_and (a b c : BitVec 64) : N3 a b (c &&& 3#64) = N3 a b c % Q130 := by
  have ha := a.isLt
  have hb := b.isLt
  unfold N3 Q130
  rw [and3]
  omega
theorem rest_mod {n : Nat} (h : n < Q130) : n % P130 = if n + 5 < Q130 then n else (n + 5) % Q130 := by
  unfold Q130 P130 at *
  split <;> omega
theorem shr_toNat (x : BitVec 64) (n : Nat) : (x >>> n).toNat = x.toNat / 2 ^ n := by
  rw [BitVec.toNat_ushiftRight, Nat.shiftRight_eq_div_pow]
theorem word_byte (a b c : BitVec 64) {i : Nat} (hi : i < 16) : ((if i < 8 then a else b) >>> (8 * (i % 8))).setWidth 8 = BitVec.ofNat 8 (N3 a b c / 256 ^ i) := by
  apply BitVec.eq_of_toNat_eq
  rw [BitVec.toNat_setWidth, shr_toNat, BitVec.toNat_ofNat]
  have ha := a.isLt
  have hb := b.isLt
  unfold N3
  by_cases h8 : i < 8
  · rw [if_pos h8]
    rcases (show i = 0 ∨ i = 1 ∨ i = 2 ∨ i = 3 ∨ i = 4 ∨ i = 5 ∨ i = 6 ∨ i = 7 by omega) with rfl | rfl | rfl | rfl | rfl | rfl | rfl | rfl <;> simp only [Nat.reducePow, Nat.reduceMul, Nat.reduceMod] <;> omega
  · rw [if_neg h8]
    rcases (show i = 8 ∨ i = 9 ∨ i = 10 ∨ i = 11 ∨ i = 12 ∨ i = 13 ∨ i = 14 ∨ i = 15 by omega) with rfl | rfl | rfl | rfl | rfl | rfl | rfl | rfl <;> simp only [Nat.reducePow, Nat.reduceMul, Nat.reduceMod] <;> omega
end Go.Proofs.Ytfehhihllenjiaa
