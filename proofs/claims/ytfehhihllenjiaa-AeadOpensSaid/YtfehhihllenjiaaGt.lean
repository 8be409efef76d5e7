/- Types of what is handed in, and equality. -/
import Derived.Test.YtfehhihllenjiaaGa
import Derived.Test.YtfehhihllenjiaaC6
set_option linter.all false
namespace Go.Proofs.Ytfehhihllenjiaa
open Go.Proofs
theorem cells30 : Try.prog.cellsOf 30 = 32 := by kernel_rfl
theorem cells32 : Try.prog.cellsOf 32 = 12 := by kernel_rfl
theorem cells5 : Try.prog.cellsOf 5 = 1 := by kernel_rfl
set_option maxRecDepth 20000 in
theorem ty30 {h : Heap} {d : Nat} {cs : List Value} (s : TyL Try.prog (d + 2) h 30 cs) : ∃ k : List (BitVec 8), k.length = 32 ∧ cs = b8 k := ty_arr8 Try.underlying30 Try.underlying5 cells5 cells30 s
set_option maxRecDepth 20000 in
theorem ty32 {h : Heap} {d : Nat} {cs : List Value} (s : TyL Try.prog (d + 2) h 32 cs) : ∃ k : List (BitVec 8), k.length = 12 ∧ cs = b8 k := ty_arr8 Try.underlying32 Try.underlying5 cells5 cells32 s
theorem ty_field {P : Program} {h : Heap} {d i u o n : Nat} {t : TypeId} {fs : Array Field} {f : Field} {cs : List Value} (hu : P.underlying t = some (.struct fs)) (hf : fs[i]? = some f) (ht : f.type = u) (ho : f.offset = o) (hs : P.cellsOf u = n) (s : TyL P (d + 1) h t cs) :
    TyL P d h u ((cs.drop o).take n) := by
  unfold TyL at s; rw [hu] at s
  subst ht ho hs
  exact s.2 i f hf
theorem ty_len {P : Program} {h : Heap} {d n : Nat} {t : TypeId} {fs : Array Field} {cs : List Value} (hu : P.underlying t = some (.struct fs)) (hs : P.cellsOf t = n) (s : TyL P (d + 1) h t cs) : cs.length = n := by
  unfold TyL at s; rw [hu] at s
  rw [← hs]; exact s.1
section
variable {k n : List (BitVec 8)} {c : BitVec 32} {kd : Kind} {es : Nat} {h : Heap}
end
attribute [local irreducible] evOps iter evD evF evC evLoad evStore evAlloc evIndexAddr evIndex evLenB evBox evBin evUn evConvert evExtract evSlice evAppend evCopy evNil evBuild evMakeSlice evBuildSlice evBuiltin Program.underlying
theorem tyv38 {h : Heap} {v : Value} (s : TyV Try.prog 8 h 38 v) : ∃ xs, By h v xs ∧ xs.length ≤ maxLen := by
  obtain ⟨v', xs, e, hb, hl⟩ := ty_bytes (d := 6) Try.underlying38 Try.underlying5 cells5 (tyv_one Try.underlying38 rfl s)
  cases e
  exact ⟨xs, hb, hl⟩
end Go.Proofs.Ytfehhihllenjiaa
