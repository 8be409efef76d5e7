/- Sealed bytes: what the tag is of, plain. -/
import Derived.Test.YtfehhihllenjiaaKb
set_option linter.all false
namespace Go.Proofs.Ytfehhihllenjiaa
open Go.Proofs
def padK16 (n : Nat) : Nat := (16 - n % 16) % 16
def padZ (b : List (BitVec 8)) : List (BitVec 8) := b ++ List.replicate (padK16 b.length) 0#8
theorem padZ_length (b : List (BitVec 8)) : (padZ b).length = b.length + padK16 b.length := by simp [padZ]
theorem padZ_mod (b : List (BitVec 8)) : (padZ b).length % 16 = 0 := by rw [padZ_length]; unfold padK16; omega
def framedS (a b : List (BitVec 8)) : List (BitVec 8) := padZ a ++ padZ b ++ leB a.length 8 ++ leB b.length 8
theorem framedS_length (a b : List (BitVec 8)) : (framedS a b).length = (a.length + padK16 a.length) + (b.length + padK16 b.length) + 16 := by
  simp only [framedS, List.length_append, padZ_length, leB_length]
theorem framedS_mod (a b : List (BitVec 8)) : (framedS a b).length % 16 = 0 := by
  rw [framedS_length]; unfold padK16; omega
theorem leB_inj {n m k : Nat} (hn : n < 256 ^ k) (hm : m < 256 ^ k) (h : leB n k = leB m k) : n = m := by
  have := congrArg leN h
  rwa [leN_leB, leN_leB, Nat.mod_eq_of_lt hn, Nat.mod_eq_of_lt hm] at this
theorem padZ_inj {a b : List (BitVec 8)} (hl : a.length = b.length) (h : padZ a = padZ b) : a = b := by
  unfold padZ at h
  exact (List.append_inj h hl).1
theorem framedS_inj {a b c d : List (BitVec 8)} (ha : a.length ≤ 4294967296) (hb : b.length ≤ 4294967296) (hc : c.length ≤ 4294967296) (hd : d.length ≤ 4294967296) (h : framedS a b = framedS c d) : a = c ∧ b = d := by
  unfold framedS at h
  have p8 : (256 : Nat) ^ 8 = 18446744073709551616 := by decide
  obtain ⟨h1, h2⟩ := List.append_inj' h (by rw [leB_length, leB_length])
  obtain ⟨h3, h4⟩ := List.append_inj' h1 (by rw [leB_length, leB_length])
  have e1 := leB_inj (by rw [p8]; omega) (by rw [p8]; omega) h2
  have e2 := leB_inj (by rw [p8]; omega) (by rw [p8]; omega) h4
  obtain ⟨h5, h6⟩ := List.append_inj h3 (by rw [padZ_length, padZ_length, e2])
  exact ⟨padZ_inj e2 h5, padZ_inj e1 h6⟩
theorem leB8_range (n : Nat) : ((List.range 8).map fun i => ((BitVec.ofNat 64 n) >>> (8 * i)).setWidth 8) = leB (n % 18446744073709551616) 8 := by
  apply List.ext_getElem?
  intro i
  by_cases hi : i < 8
  · rw [leB_get _ _ _ hi, List.getElem?_map, List.getElem?_range hi, Option.map_some]
    congr 1
    apply BitVec.eq_of_toNat_eq
    rw [BitVec.toNat_setWidth, shr_toNat, BitVec.toNat_ofNat, BitVec.toNat_ofNat, Nat.pow_mul]
  · rw [List.getElem?_eq_none (by simp; omega), List.getElem?_eq_none (by rw [leB_length]; omega)]
end Go.Proofs.Ytfehhihllenjiaa
