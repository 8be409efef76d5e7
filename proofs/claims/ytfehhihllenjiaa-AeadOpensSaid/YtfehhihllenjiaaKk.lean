/- One-time tags: what is alive, a key's half. -/
import Derived.Test.YtfehhihllenjiaaKj
import Derived.Test.YtfehhihllenjiaaGt
set_option linter.all false
namespace Go.Proofs.Ytfehhihllenjiaa
open Go.Proofs
theorem R_cvp {P : Program} {call : Value → Phi} {e : Env} {h : Heap} {Q : Post} {all : Array Oper} {l : List Oper} {ty : TypeId} {pos : String} {af : Array Edge} {t el : TypeId} {a : Operand} {d b i n c es : Nat} {cs : List Value} (ht : P.underlying t = some (.slice el)) (he : P.underlying el = some (.int .u8)) (ha : ev e a = .slice (some ⟨b, i, none⟩) n c) (ho : h.obj b = some (.row .rw es cs))
    (hw : W (evOps call P all l (upd e d (.slice (some ⟨b, i, none⟩) n c)) h) Q) : W (evOps call P all (⟨some d, .convert t t a, ty, pos, af, none⟩ :: l) e h) Q := by
  refine R_op (v := .slice (some ⟨b, i, none⟩) n c) (h' := h) ?_ hw
  rw [op_convert, ha, cv_same ht he ho]
  rfl
/-- The first i of n, the others 0. -/
def cpy (xs : List (BitVec 8)) (n i : Nat) : List (BitVec 8) := xs.take i ++ List.replicate (n - i) 0#8
theorem cpy_zero (xs : List (BitVec 8)) (n : Nat) : cpy xs n 0 = List.replicate n 0#8 := by simp [cpy]
theorem cpy_length {xs : List (BitVec 8)} {n i : Nat} (h : i ≤ n) (hi : i ≤ xs.length) : (cpy xs n i).length = n := by simp [cpy]; omega
theorem cpy_set {xs : List (BitVec 8)} {n i : Nat} (h : i < n) (hi : i < xs.length) : (cpy xs n i).set i (xs.getD i 0#8) = cpy xs n (i + 1) := by
  unfold cpy
  have hl : (xs.take i).length = i := by rw [List.length_take]; omega
  rw [List.set_append_right _ _ (by omega), hl, Nat.sub_self, show n - i = (n - (i + 1)) + 1 by omega, List.replicate_succ, List.set_cons_zero, List.take_succ, List.getElem?_eq_getElem hi, Option.toList_some, List.append_assoc, List.getD_eq_getElem?_getD, List.getElem?_eq_getElem hi]
  rfl
theorem cpy_full (xs : List (BitVec 8)) (n : Nat) : cpy xs n n = xs.take n := by simp [cpy]
def pkL : List (BitVec 8) := [133#8, 214#8, 190#8, 120#8, 87#8, 85#8, 109#8, 51#8, 127#8, 68#8, 82#8, 254#8, 66#8, 213#8, 6#8, 168#8, 1#8, 3#8, 128#8, 138#8, 251#8, 13#8, 178#8, 253#8, 74#8, 191#8, 246#8, 175#8, 65#8, 73#8, 245#8, 27#8]
def pbL : List (BitVec 8) := [67#8, 114#8, 121#8, 112#8, 116#8, 111#8, 103#8, 114#8, 97#8, 112#8, 104#8, 105#8, 99#8, 32#8, 70#8, 111#8, 114#8, 117#8, 109#8, 32#8, 82#8, 101#8, 115#8, 101#8, 97#8, 114#8, 99#8, 104#8, 32#8, 71#8, 114#8, 111#8, 117#8, 112#8]
def ptL : List (BitVec 8) := [168#8, 6#8, 29#8, 193#8, 48#8, 81#8, 54#8, 198#8, 194#8, 43#8, 139#8, 175#8, 12#8, 1#8, 39#8, 169#8]
attribute [local irreducible] evOps iter evD evF evC evLoad evStore evAlloc evIndexAddr evIndex evLenB evBox evBin evUn evConvert evExtract evSlice evAppend evCopy evNil evBuild evMakeSlice evBuildSlice evBuiltin Program.underlying
attribute [local irreducible] polyT pkL pbL ptL clampB cpy
end Go.Proofs.Ytfehhihllenjiaa
