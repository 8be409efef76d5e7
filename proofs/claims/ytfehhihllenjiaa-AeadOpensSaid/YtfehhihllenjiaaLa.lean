/- Sealed bytes: what the tag is of, plain. -/
import Derived.Test.YtfehhihllenjiaaKb
set_option linter.all false
namespace Go.Proofs.Ytfehhihllenjiaa
open Go.Proofs
def padK16 (n : Nat) : Nat := (16 - n % 16) % 16
def padZ (b : List (BitVec 8)) : List (BitVec 8) := b ++ List.replicate (padK16 b.length) 0#8
theorem padZ_length (b : List (BitVec 8)) : (padZ b).length = b.length + padK16 b.length := by simp [padZ]
theorem padZ_mod (b : List (BitVec 8)) : (padZ b).length % 16 = 0 := by rw [padZ_length]; unfold padK16; omega
def framedS (a b : List (BitVec 8)) : List (BitVec 8) := padZ a ++ padZ b ++ leB a.length 8 ++ leB b.length 8
theorem framedS_length (a b : List (BitVec 8)) : (framedS a b).length = (a.length + padK16 a.length) + (b.length + padK16 b.length) + 16 := by
  simp only [framedS, List.length_append, padZ_length, leB_length]
end Go.Proofs.Ytfehhihllenjiaa
