/- One-time tags: what the laws of tags rest on, plain. -/
import Derived.Test.YtfehhihllenjiaaKb
set_option linter.all false
namespace Go.Proofs.Ytfehhihllenjiaa
open Go.Proofs
/-- The digits of bytes with a byte 1 behind them. -/
def oneD (b : List (BitVec 8)) (i : Nat) : Nat := if i < b.length then (b.getD i 0#8).toNat else if i = b.length then 1 else 0
theorem oneD_eq (b : List (BitVec 8)) (i : Nat) : ((b ++ [1#8]).getD i 0#8).toNat = oneD b i := by
  unfold oneD
  split
  · rename_i h
    rw [List.getD_eq_getElem?_getD, List.getElem?_append_left h, ← List.getD_eq_getElem?_getD]
  · split
    · rename_i h1 h
      subst h
      rw [List.getD_eq_getElem?_getD, List.getElem?_append_right (Nat.le_refl _), Nat.sub_self]; rfl
    · rename_i h1 h2
      rw [List.getD_eq_getElem?_getD, List.getElem?_eq_none (by simp; omega)]; rfl
end Go.Proofs.Ytfehhihllenjiaa
