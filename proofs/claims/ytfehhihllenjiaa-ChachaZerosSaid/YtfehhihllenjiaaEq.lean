/- Equality of arrays of words. -/
import Derived.Test.YtfehhihllenjiaaY
set_option linter.all false
namespace Go.Proofs.Ytfehhihllenjiaa

theorem andAll_all {α : Type} (g : α → Option Bool) (p : α → Bool) : ∀ l : List α, (∀ a ∈ l, g a = some (p a)) → andAll g l = some (l.all p)
  | [], _ => rfl
  | a :: l, h => by
    have ih := andAll_all g p l fun b hb => h b (by simp [hb])
    simp only [andAll, h a (by simp), List.all_cons]
    cases p a
    · rfl
    · simpa using ih
theorem getD_ext {α : Type} {d : α} {xs ys : List α} {n : Nat} (hx : xs.length = n) (hy : ys.length = n) (h : ∀ i, i < n → xs.getD i d = ys.getD i d) : xs = ys := by
  apply List.ext_getElem (by omega)
  intro i h1 h2
  have := h i (by omega)
  simpa [List.getD_eq_getElem?_getD, h1, h2] using this
section
variable {α : Type} [DecidableEq α] {f : α → Value} {P : Program} {t el : TypeId} {n : Nat} {info : TypeInfo} {ed : TypeDesc}
theorem eq_row (d : α) (hd : P.underlying t = some (.array n el)) (he : P.underlying el = some ed) (hg : isAggD ed = false) (hi : P.info? el = some info) (hs : info.size = 1)
    (hf : ∀ (m : Nat) (x y : α), evEq P (m + 1) el (f x) (f y) = some (decide (x = y))) {xs ys : List α} (hx : xs.length = n) (hy : ys.length = n) (m : Nat) :
    evEq P (m + 2) t (.agg ⟨xs.map f⟩) (.agg ⟨ys.map f⟩) = some (decide (xs = ys)) := by
  have part : ∀ (zs : List α) (i : Nat), zs.length = n → i < n → evPart P el ⟨zs.map f⟩ (i * info.size) = some (f (zs.getD i d)) := by
    intro zs i hz hin
    simp only [evPart, he, hi, hg, hs, Nat.mul_one]
    have := row_get (f := f) (xs := zs) (k := .ro) (es := 0) d (by omega : i < zs.length)
    rw [cellV_row] at this
    simpa using this
  have h1 : evEq P (m + 2) t (.agg ⟨xs.map f⟩) (.agg ⟨ys.map f⟩) = andAll (fun i => match evPart P el ⟨xs.map f⟩ (i * info.size), evPart P el ⟨ys.map f⟩ (i * info.size) with
        | some a, some b => evEq P (m + 1) el a b
        | _, _ => none) (List.range' 0 n) := by
    conv => lhs; unfold evEq
    rw [hd]
    simp only [hi]
    rfl
  rw [h1, andAll_all _ (fun i => decide (xs.getD i d = ys.getD i d))]
  · congr 1
    by_cases h : xs = ys
    · subst h; simp
    · have : ¬ ∀ i, i < n → xs.getD i d = ys.getD i d := fun hh => h (getD_ext hx hy hh)
      rw [decide_eq_false h]
      rw [Bool.eq_false_iff]
      intro hh
      exact this fun i hi2 => by
        have := List.all_eq_true.1 hh i (by simp [List.mem_range'_1, hi2])
        simpa using this
  · intro i hmem
    have hin : i < n := by simpa [List.mem_range'_1] using hmem
    simp only [part xs i hx hin, part ys i hy hin, hf]
end
section
variable {P : Program} {t el : TypeId} {n : Nat} {info : TypeInfo}
theorem eq_w8 (he : P.underlying el = some (.int .u8)) (m : Nat) (x y : BitVec 8) : evEq P (m + 1) el (w8 x) (w8 y) = some (decide (x = y)) := by
  have := u_eql (k := .u8) x y
  simp only [evIntOp, Option.some.injEq, Value.bool.injEq] at this
  simp only [evEq, w8, he, if_true]
  exact congrArg some this
theorem eq_w32 (he : P.underlying el = some (.int .u32)) (m : Nat) (x y : BitVec 32) : evEq P (m + 1) el (w32 x) (w32 y) = some (decide (x = y)) := by
  have := u_eql (k := .u32) x y
  simp only [evIntOp, Option.some.injEq, Value.bool.injEq] at this
  simp only [evEq, w32, he, if_true]
  exact congrArg some this
end
end Go.Proofs.Ytfehhihllenjiaa
