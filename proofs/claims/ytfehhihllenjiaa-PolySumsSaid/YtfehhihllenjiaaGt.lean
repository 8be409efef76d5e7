/- Types of what is handed in, and equality. -/
import Derived.Test.YtfehhihllenjiaaGa
import Derived.Test.YtfehhihllenjiaaC6
set_option linter.all false
namespace Go.Proofs.Ytfehhihllenjiaa
open Go.Proofs
theorem cells30 : Try.prog.cellsOf 30 = 32 := by kernel_rfl
theorem cells32 : Try.prog.cellsOf 32 = 12 := by kernel_rfl
theorem cells22 : Try.prog.cellsOf 22 = 1 := by kernel_rfl
theorem cells5 : Try.prog.cellsOf 5 = 1 := by kernel_rfl
theorem cells37 : Try.prog.cellsOf 37 = 45 := by kernel_rfl
def askL (k n : List (BitVec 8)) (c : BitVec 32) : List Value := b8 k ++ (b8 n ++ [w32 c])
set_option maxRecDepth 20000 in
theorem ty30 {h : Heap} {d : Nat} {cs : List Value} (s : TyL Try.prog (d + 2) h 30 cs) : ∃ k : List (BitVec 8), k.length = 32 ∧ cs = b8 k := ty_arr8 Try.underlying30 Try.underlying5 cells5 cells30 s
set_option maxRecDepth 20000 in
theorem ty32 {h : Heap} {d : Nat} {cs : List Value} (s : TyL Try.prog (d + 2) h 32 cs) : ∃ k : List (BitVec 8), k.length = 12 ∧ cs = b8 k := ty_arr8 Try.underlying32 Try.underlying5 cells5 cells32 s
theorem ty_field {P : Program} {h : Heap} {d i u o n : Nat} {t : TypeId} {fs : Array Field} {f : Field} {cs : List Value} (hu : P.underlying t = some (.struct fs)) (hf : fs[i]? = some f) (ht : f.type = u) (ho : f.offset = o) (hs : P.cellsOf u = n) (s : TyL P (d + 1) h t cs) :
    TyL P d h u ((cs.drop o).take n) := by
  unfold TyL at s; rw [hu] at s
  subst ht ho hs
  exact s.2 i f hf
theorem ty_len {P : Program} {h : Heap} {d n : Nat} {t : TypeId} {fs : Array Field} {cs : List Value} (hu : P.underlying t = some (.struct fs)) (hs : P.cellsOf t = n) (s : TyL P (d + 1) h t cs) : cs.length = n := by
  unfold TyL at s; rw [hu] at s
  rw [← hs]; exact s.1
set_option maxRecDepth 20000 in
theorem ty37 {h : Heap} {d : Nat} {cs : List Value} (s : TyL Try.prog (d + 3) h 37 cs) : ∃ k n c, k.length = 32 ∧ n.length = 12 ∧ cs = askL k n c := by
  have hl := ty_len Try.underlying37 cells37 s
  obtain ⟨k, hk, e0⟩ := ty30 (d := d) (ty_field (i := 0) (u := 30) (o := 0) Try.underlying37 rfl rfl rfl cells30 s)
  obtain ⟨n, hn, e1⟩ := ty32 (d := d) (ty_field (i := 1) (u := 32) (o := 32) Try.underlying37 rfl rfl rfl cells32 s)
  obtain ⟨c, e2⟩ := ty_u32 (d := d + 1) Try.underlying22 (ty_field (i := 2) (u := 22) (o := 44) Try.underlying37 rfl rfl rfl cells22 s)
  refine ⟨k, n, c, hk, hn, ?_⟩
  unfold askL
  rw [← e0, ← e1, ← e2, List.drop_zero]
  have h1 : cs = cs.take 32 ++ cs.drop 32 := by simp
  have h2 : cs.drop 32 = (cs.drop 32).take 12 ++ (cs.drop 44).take 1 := by
    have : (cs.drop 44).take 1 = cs.drop 44 := List.take_of_length_le (by simp; omega)
    rw [this, show cs.drop 44 = (cs.drop 32).drop 12 by rw [List.drop_drop], List.take_append_drop]
  rw [← h2]; exact h1
section
variable {k n : List (BitVec 8)} {c : BitVec 32} {kd : Kind} {es : Nat} {h : Heap}
theorem ask_box : evBox (.agg ⟨askL k n c⟩) h = some (.pointer (some ⟨h.nx, 0, none⟩), newRowH h .rw 1 (askL k n c)) := box_agg (by
  unfold askL
  simp only [List.all_append, b8_one, List.all_cons, List.all_nil, Bool.and_true, Bool.true_and]; rfl)
theorem ask_cut0 (hk : k.length = 32) : cutV (some (.row kd es (askL k n c))) 0 32 = some (.agg ⟨b8 k⟩) := by
  rw [cutV_row, if_pos (by simp [askL, b8]; omega)]
  unfold askL
  rw [List.drop_zero, List.take_append_of_le_length (by rw [b8_length]; omega), List.take_of_length_le (by rw [b8_length]; omega)]
theorem ask_cut1 (hk : k.length = 32) (hn : n.length = 12) : cutV (some (.row kd es (askL k n c))) 32 12 = some (.agg ⟨b8 n⟩) := by
  rw [cutV_row, if_pos (by simp [askL, b8]; omega)]
  unfold askL
  rw [List.drop_append_of_le_length (by rw [b8_length]; omega), List.drop_of_length_le (by rw [b8_length]; omega), List.nil_append, List.take_append_of_le_length (by rw [b8_length]; omega), List.take_of_length_le (by rw [b8_length]; omega)]
theorem ask_cell (hk : k.length = 32) (hn : n.length = 12) : cellV (some (.row kd es (askL k n c))) 44 = some (w32 c) := by
  rw [cellV_row]
  unfold askL
  rw [List.getElem?_append_right (by rw [b8_length]; omega), List.getElem?_append_right (by rw [b8_length, b8_length]; omega)]
  simp [b8_length, hk, hn]
end
theorem eqg30 : Try.prog.eqGuardType Try.prog.depth 30 = false := by kernel_rfl
theorem beq30 {l : Bool} {xs ys : List (BitVec 8)} (hx : xs.length = 32) (hy : ys.length = 32) : evBin Try.prog .eql 30 l (.agg ⟨b8 xs⟩) (.agg ⟨b8 ys⟩) = some (.bool (decide (xs = ys))) := by
  have h := fun m => eq_row (f := w8) 0#8 Try.underlying30 Try.underlying5 rfl inf5 rfl (fun m x y => eq_w8 Try.underlying5 m x y) hx hy m
  have e1 : eqOk Try.prog 30 l (.agg ⟨b8 xs⟩) (.agg ⟨b8 ys⟩) = true := by
    show (!Try.prog.eqGuardType Try.prog.depth 30) = true
    rw [eqg30]; rfl
  simp only [evBin, e1, if_true]
  have e2 : evEq Try.prog Op.maxDepth 30 (.agg ⟨b8 xs⟩) (.agg ⟨b8 ys⟩) = some (decide (xs = ys)) := h (Op.maxDepth - 2)
  rw [e2]; rfl
attribute [local irreducible] evOps iter evD evF evC evLoad evStore evAlloc evIndexAddr evIndex evLenB evBox evBin evUn evConvert evExtract evSlice evAppend evCopy evNil evBuild evMakeSlice evBuildSlice evBuiltin Program.underlying
theorem tyv38 {h : Heap} {v : Value} (s : TyV Try.prog 8 h 38 v) : ∃ xs, By h v xs ∧ xs.length ≤ maxLen := by
  obtain ⟨v', xs, e, hb, hl⟩ := ty_bytes (d := 6) Try.underlying38 Try.underlying5 cells5 (tyv_one Try.underlying38 rfl s)
  cases e
  exact ⟨xs, hb, hl⟩
theorem tyv37 {h : Heap} {v : Value} (s : TyV Try.prog 8 h 37 v) : ∃ k n c, k.length = 32 ∧ n.length = 12 ∧ v = .agg ⟨askL k n c⟩ := by
  obtain ⟨cs, rfl, s'⟩ := tyv_agg Try.underlying37 rfl s
  obtain ⟨k, n, c, hk, hn, rfl⟩ := ty37 (d := 5) s'
  exact ⟨k, n, c, hk, hn, rfl⟩
theorem tyv30 {h : Heap} {v : Value} (s : TyV Try.prog 8 h 30 v) : ∃ k, k.length = 32 ∧ v = .agg ⟨b8 k⟩ := by
  obtain ⟨cs, rfl, s'⟩ := tyv_agg Try.underlying30 rfl s
  obtain ⟨k, hk, rfl⟩ := ty30 (d := 6) s'
  exact ⟨k, hk, rfl⟩
theorem tyv32 {h : Heap} {v : Value} (s : TyV Try.prog 8 h 32 v) : ∃ k, k.length = 12 ∧ v = .agg ⟨b8 k⟩ := by
  obtain ⟨cs, rfl, s'⟩ := tyv_agg Try.underlying32 rfl s
  obtain ⟨k, hk, rfl⟩ := ty32 (d := 6) s'
  exact ⟨k, hk, rfl⟩
end Go.Proofs.Ytfehhihllenjiaa
