/- Plain laws of the stream. -/
import Derived.Test.YtfehhihllenjiaaFe
import Derived.Test.YtfehhihllenjiaaC4
set_option linter.all false
namespace Go.Proofs.Ytfehhihllenjiaa

/-- Bytes with those of the stream. -/
def xorS (k n : List (BitVec 8)) (c : BitVec 32) (b : List (BitVec 8)) : List (BitVec 8) :=
  (List.range b.length).map fun i => b.getD i 0#8 ^^^ (block k n (c + BitVec.ofNat 32 (i / 64))).getD (i % 64) 0#8
section
variable {k n b : List (BitVec 8)} {c : BitVec 32}
theorem xorS_length : (xorS k n c b).length = b.length := by simp [xorS]
theorem xorS_get {i : Nat} (hi : i < b.length) : (xorS k n c b).getD i 0#8 = b.getD i 0#8 ^^^ (block k n (c + BitVec.ofNat 32 (i / 64))).getD (i % 64) 0#8 := by
  simp [xorS, List.getD_eq_getElem?_getD, hi]
theorem list_ext8 {xs ys : List (BitVec 8)} (hl : xs.length = ys.length) (h : ∀ i, i < xs.length → xs.getD i 0#8 = ys.getD i 0#8) : xs = ys := getD_ext (d := 0#8) rfl hl.symm h
theorem xorS_twice : xorS k n c (xorS k n c b) = b := by
  apply list_ext8 (by simp [xorS_length])
  intro i hi
  rw [xorS_length, xorS_length] at hi
  rw [xorS_get (by rw [xorS_length]; exact hi), xorS_get hi, BitVec.xor_assoc, BitVec.xor_self, BitVec.xor_zero]
theorem getD_take8 {xs : List (BitVec 8)} {i m : Nat} (hi : i < m) : (xs.take m).getD i 0#8 = xs.getD i 0#8 := by
  simp [List.getD_eq_getElem?_getD, List.getElem?_take, hi]
theorem getD_drop8 {xs : List (BitVec 8)} {i m : Nat} : (xs.drop m).getD i 0#8 = xs.getD (m + i) 0#8 := by
  simp [List.getD_eq_getElem?_getD, List.getElem?_drop]
theorem xorS_take (m : Nat) : xorS k n c (b.take m) = (xorS k n c b).take m := by
  apply list_ext8 (by simp [xorS_length])
  intro i hi
  rw [xorS_length] at hi
  have h1 : i < m := by simp at hi; omega
  have h2 : i < b.length := by simp at hi; omega
  rw [xorS_get hi, getD_take8 h1, getD_take8 h1, xorS_get h2]
end
theorem xorS_succ {k n b : List (BitVec 8)} {c : BitVec 32} {m : Nat} (hm : m < b.length) : xorS k n c (b.take (m + 1)) = xorS k n c (b.take m) ++ [b.getD m 0#8 ^^^ (block k n (c + BitVec.ofNat 32 (m / 64))).getD (m % 64) 0#8] := by
  rw [xorS_take, xorS_take, List.take_succ_eq_append_getElem (by rw [xorS_length]; exact hm)]
  congr 2
  have := xorS_get (k := k) (n := n) (c := c) hm
  rw [← this, List.getD_eq_getElem?_getD, List.getElem?_eq_getElem (by rw [xorS_length]; exact hm)]
  rfl
theorem xorS_step {k n b : List (BitVec 8)} {c : BitVec 32} {j i : Nat} (hi : i < ((b.drop (64 * j)).take 64).length) : xorS k n c (b.take (64 * j + i)) ++ [((b.drop (64 * j)).take 64).getD i 0#8 ^^^ (block k n (c + BitVec.ofNat 32 j)).getD i 0#8] = xorS k n c (b.take (64 * j + (i + 1))) := by
  simp at hi
  rw [← Nat.add_assoc, xorS_succ (by omega), getD_take8 (by omega), getD_drop8, show (64 * j + i) / 64 = j by omega, show (64 * j + i) % 64 = i by omega]
end Go.Proofs.Ytfehhihllenjiaa
