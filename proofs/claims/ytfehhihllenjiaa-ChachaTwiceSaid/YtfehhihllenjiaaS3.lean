/- Slices that are written out; constants below 0. -/
import Derived.Test.YtfehhihllenjiaaS2
set_option linter.all false
namespace Go.Proofs.Ytfehhihllenjiaa
section
variable {P : Program} {t el : TypeId} {info : TypeInfo} {z a b c d e : Value} {h : Heap}
theorem toList_one {z : Value} (hc : z.cells.size = 1) : ∃ x, z.cells.toList = [x] := by
  have : z.cells.toList.length = 1 := by simpa using hc
  match h : z.cells.toList with
  | [x] => exact ⟨x, rfl⟩
  | [] => simp [h] at this
  | x :: y :: l => simp [h] at this
theorem fill_one {place : Nat → Option (Nat × Nat)} {cells : List Value} {i : Nat} {rest : List (Nat × Value)} (hp : place i = some (i, 1)) (hv : a.cells = #[a]) (hi : i < cells.length) : fillL place cells ((i, a) :: rest) = fillL place (cells.set i a) rest := by
  rw [fillL]
  simp only [hp, hv]
  have : ¬ ((#[a] : Array Value).size ≠ 1 ∨ i + (#[a] : Array Value).size > cells.length) := by simp; omega
  rw [if_neg this]; rfl
theorem bs_n (E : ElOk P t el info 1 z) {n : Nat} {parts : List (Nat × Value)} {l : List Value} (h0 : 0 < n) (hn : n ≤ 64)
    (hp : ∀ x, fillL (fun i => some (i, 1)) (List.replicate n x) parts = some l) : evBuildSlice P t n parts h = some (.slice (some ⟨h.nx, 0, none⟩) n n, newRowH h .rw 1 l) := by
  obtain ⟨x, hx⟩ := toList_one E.hc
  unfold evBuildSlice
  simp only [E.hd, E.hi, E.hz, E.hs, E.hc, hx, zeroCellsL, Nat.mul_one]
  rw [if_neg (by omega), if_pos ⟨trivial, by omega, by omega⟩]
  rw [hp]
theorem bs_0 (E : ElOk P t el info 1 z) : evBuildSlice P t 0 [] h = some (emptyS, h) := by
  unfold evBuildSlice
  simp only [E.hd, E.hi, E.hz]
  rfl
theorem bs_1 (E : ElOk P t el info 1 z) (ha : a.cells = #[a]) : evBuildSlice P t 1 [(0, a)] h = some (.slice (some ⟨h.nx, 0, none⟩) 1 1, newRowH h .rw 1 [a]) :=
  bs_n E (by omega) (by omega) fun x => by rw [fill_one rfl ha (by simp)]; rfl
theorem bs_2 (E : ElOk P t el info 1 z) (ha : a.cells = #[a]) (hb : b.cells = #[b]) : evBuildSlice P t 2 [(0, a), (1, b)] h = some (.slice (some ⟨h.nx, 0, none⟩) 2 2, newRowH h .rw 1 [a, b]) :=
  bs_n E (by omega) (by omega) fun x => by rw [fill_one rfl ha (by simp), fill_one rfl hb (by simp)]; rfl
theorem bs_3 (E : ElOk P t el info 1 z) (ha : a.cells = #[a]) (hb : b.cells = #[b]) (hc : c.cells = #[c]) : evBuildSlice P t 3 [(0, a), (1, b), (2, c)] h = some (.slice (some ⟨h.nx, 0, none⟩) 3 3, newRowH h .rw 1 [a, b, c]) :=
  bs_n E (by omega) (by omega) fun x => by rw [fill_one rfl ha (by simp), fill_one rfl hb (by simp), fill_one rfl hc (by simp)]; rfl
theorem bs_4 (E : ElOk P t el info 1 z) (ha : a.cells = #[a]) (hb : b.cells = #[b]) (hc : c.cells = #[c]) (hd : d.cells = #[d]) : evBuildSlice P t 4 [(0, a), (1, b), (2, c), (3, d)] h = some (.slice (some ⟨h.nx, 0, none⟩) 4 4, newRowH h .rw 1 [a, b, c, d]) :=
  bs_n E (by omega) (by omega) fun x => by rw [fill_one rfl ha (by simp), fill_one rfl hb (by simp), fill_one rfl hc (by simp), fill_one rfl hd (by simp)]; rfl
theorem fa_eq {fs : Array Field} {fd : Field} {f b i off n : Nat} (hd : P.underlying t = some (.struct fs)) (hf : fs[f]? = some fd) (hi : P.info? fd.type = some info) (ho : fd.offset = off) (hs : info.size = n) (h0 : (n == 0) = false) :
    evFieldAddr P t (.pointer (some ⟨b, i, none⟩)) f = some (.pointer (some ⟨b, i + off, none⟩)) := by
  subst ho
  unfold evFieldAddr
  simp only [hd, hf, hi]
  rw [if_neg (by rw [hs]; simpa using h0)]
theorem by_row {h : Heap} {b : Nat} {k : Kind} {xs : List (BitVec 8)} {n c : Nat} (hb : b < h.nx) (ho : h.obj b = some (.row k 1 (b8 xs))) (hn : n ≤ c) (hl : xs.length = n) : By h (.slice (some ⟨b, 0, none⟩) n c) xs :=
  .mk hb ho (fun _ => rfl) hn (by omega) (by rw [List.drop_zero, ← hl, List.take_length])
end
/-- An int below nothing. -/
def nv (n : Nat) : Value := .int .i64 (-(n : Int))
theorem un_neg_iv (n : Nat) (hn : n < 9223372036854775808) : evUn .neg (iv n) = some (nv n) := by
  show some (Value.int .i64 (IntKind.i64.wrap (0 - (n : Int)))) = _
  have : IntKind.i64.wrap (0 - (n : Int)) = -(n : Int) := by
    have e1 : (2 : Int) ^ IntKind.i64.bits = 18446744073709551616 := by decide
    have e2 : (2 : Int) ^ (IntKind.i64.bits - 1) = 9223372036854775808 := by decide
    unfold IntKind.wrap
    simp only [e1, e2, show IntKind.i64.signed = true from rfl, Bool.true_and, decide_eq_true_eq]
    split <;> omega
  rw [this]; rfl
theorem cvn_64 {P : Program} {s d : TypeId} {n : Nat} {h : Heap} {sd : TypeDesc} (hs : P.underlying s = some sd) (hd : P.underlying d = some (.int .u64)) (hn : n ≤ 18446744073709551616) : evConvert P s d (nv n) h = some (w64 (BitVec.ofNat 64 (18446744073709551616 - n)), h) := by
  refine (cv_eq hs hd).trans ?_
  have e : IntKind.u64.wrap (-(n : Int)) = ((18446744073709551616 - n) % 2 ^ 64 : Nat) := by
    rw [wrapU rfl]
    have e1 : (2 : Int) ^ IntKind.u64.bits = 18446744073709551616 := by decide
    rw [e1]; omega
  rw [e]; unfold w64; rw [BitVec.toNat_ofNat]
theorem fr_refl {lo : Nat} {h : Heap} : Fr lo h h := .refl lo h
def RF := And.intro @fr_new (And.intro @fr_put (And.intro @fr_refl (And.intro @Nat.le_refl (And.intro @Nat.le_add_right (And.intro @nx_new (And.intro @nx_put @nx_assoc))))))
theorem bi_min {P : Program} {ts : List TypeId} {a b : Nat} {h : Heap} : evBuiltin P .min ts [iv a, iv b] h = some (iv (min a b), h) := by
  have e : evMin false [iv a, iv b] = some (iv (min a b)) := by
    show some (Value.int .i64 (if (b : Int) < a then (b : Int) else a)) = _
    by_cases hb : b < a
    · rw [if_pos (by omega), Nat.min_eq_right (by omega)]; rfl
    · rw [if_neg (by omega), Nat.min_eq_left (by omega)]; rfl
  unfold evBuiltin
  simp only [e, Option.map_some]
theorem bi_max {P : Program} {ts : List TypeId} {a b : Nat} {h : Heap} : evBuiltin P .max ts [iv a, iv b] h = some (iv (max a b), h) := by
  have e : evMin true [iv a, iv b] = some (iv (max a b)) := by
    show some (Value.int .i64 (if (b : Int) > a then (b : Int) else a)) = _
    by_cases hb : a < b
    · rw [if_pos (by omega), Nat.max_eq_right (by omega)]; rfl
    · rw [if_neg (by omega), Nat.max_eq_left (by omega)]; rfl
  unfold evBuiltin
  simp only [e, Option.map_some]
theorem Ow.new {lo es : Nat} {h : Heap} {v : Value} {n : Nat} {cs : List Value} (s : Ow lo es h v n cs) {k : Kind} {es' : Nat} {cs' : List Value} : Ow lo es (newRowH h k es' cs') v n cs :=
  s.keep (by rw [nx_new]; omega) fun r hr => by rw [obj_new, if_neg]; have := (s.rows r hr).2; omega
theorem Ow.putR {lo es : Nat} {h : Heap} {v : Value} {n : Nat} {cs : List Value} (s : Ow lo es h v n cs) {b : Nat} {o : Option AObj} (hb : b ∉ rowsOfV v) : Ow lo es (h.put b o) v n cs :=
  s.keep (Nat.le_refl _) fun r hr => by rw [obj_put, if_neg]; intro h; subst h; exact hb hr
theorem Went.not {v v' : Value} {h h' : Heap} (w : Went v v' h h') {r : Nat} (h1 : r ∉ rowsOfV v) (h2 : r < h.nx) : r ∉ rowsOfV v' := fun hr => by
  rcases w.rows r hr with h | h
  · exact h1 h
  · omega
theorem one_by {h : Heap} {x : BitVec 8} : By (newRowH h .rw 1 [w8 x]) (.slice (some ⟨h.nx, 0, none⟩) 1 1) [x] :=
  by_row (xs := [x]) (k := .rw) (by rw [nx_new]; omega) (by rw [obj_new, if_pos rfl]; rfl) (Nat.le_refl _) rfl
theorem N_exit {i : Nat} {A : Prop} (h : A) : X.exit i ≠ .normal ∧ A := ⟨(nomatch ·), h⟩
theorem N_ret {A : Prop} (h : A) : X.ret ≠ .normal ∧ A := ⟨(nomatch ·), h⟩
end Go.Proofs.Ytfehhihllenjiaa
