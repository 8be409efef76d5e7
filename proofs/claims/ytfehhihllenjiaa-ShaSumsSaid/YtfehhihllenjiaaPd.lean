/- Plain laws of the digest: what is filled up tells what it was. -/
import Derived.Test.YtfehhihllenjiaaPc
set_option linter.all false
namespace Go.Proofs.Ytfehhihllenjiaa
theorem padS_get (b : List (BitVec 8)) {p : Nat} (hp : p < padN b.length) : (padS b).getD p 0#8 = padAt b 8 p := by
  rw [← padJ_full, padJ_get b 8 hp]
theorem padS_mid (b : List (BitVec 8)) {p : Nat} (h1 : b.length < p) (h2 : p < padN b.length - 8) : (padS b).getD p 0#8 = 0#8 := by
  rw [padS_get b (by omega)]
  unfold padAt
  rw [if_neg (by omega), if_neg (by omega), if_neg (by omega)]
theorem padS_one (b : List (BitVec 8)) : (padS b).getD b.length 0#8 = 128#8 := by
  have := padN_ge b.length
  rw [padS_get b (by omega)]
  unfold padAt
  rw [if_neg (by omega), if_pos rfl]
theorem padS_take (b : List (BitVec 8)) : (padS b).take b.length = b := by
  unfold padS
  rw [List.append_assoc, List.append_assoc, List.take_append_of_le_length (Nat.le_refl _), List.take_length]
theorem padS_last (b : List (BitVec 8)) {k : Nat} (hk : k < 8) : (padS b).getD (padN b.length - 8 + k) 0#8 = BitVec.ofNat 8 (8 * b.length / 2 ^ (8 * (7 - k))) := by
  have := padN_ge b.length
  rw [padS_get b (by omega)]
  unfold padAt
  rw [if_neg (by omega), if_neg (by omega), if_pos (by omega), show padN b.length - 1 - (padN b.length - 8 + k) = 7 - k by omega]
theorem acc_step (m : Nat) {k : Nat} (hk : k < 8) : m / 2 ^ (8 * (8 - k)) * 256 + (BitVec.ofNat 8 (m / 2 ^ (8 * (7 - k)))).toNat = m / 2 ^ (8 * (8 - (k + 1))) := by
  have e1 : 8 - (k + 1) = 7 - k := by omega
  have e2 : 2 ^ (8 * (8 - k)) = 2 ^ (8 * (7 - k)) * 256 := by
    rw [show 8 * (8 - k) = 8 * (7 - k) + 8 by omega, Nat.pow_add]
  rw [e1, e2, ← Nat.div_div_eq_div_mul, BitVec.toNat_ofNat]
  have := Nat.div_add_mod (m / 2 ^ (8 * (7 - k))) 256
  omega
theorem padS_inj {a b : List (BitVec 8)} (ha : a.length ≤ 2147483648) (hb : b.length ≤ 2147483648) (h : padS a = padS b) : a = b := by
  have hN : padN a.length = padN b.length := by rw [← padS_length, ← padS_length, h]
  have hbyte : ∀ k, k < 8 → BitVec.ofNat 8 (8 * a.length / 2 ^ (8 * (7 - k))) = BitVec.ofNat 8 (8 * b.length / 2 ^ (8 * (7 - k))) := fun k hk => by
    rw [← padS_last a hk, ← padS_last b hk, h, hN]
  have acc : ∀ k, k ≤ 8 → 8 * a.length / 2 ^ (8 * (8 - k)) = 8 * b.length / 2 ^ (8 * (8 - k)) := by
    intro k
    induction k with
    | zero => intro _; rw [Nat.div_eq_of_lt (by omega), Nat.div_eq_of_lt (by omega)]
    | succ k ih =>
      intro hk
      rw [← acc_step _ (by omega), ← acc_step _ (by omega), ih (by omega), hbyte k (by omega)]
  have := acc 8 (Nat.le_refl _)
  have hlen : a.length = b.length := by simp at this; omega
  rw [← padS_take a, h, hlen, padS_take]
end Go.Proofs.Ytfehhihllenjiaa
