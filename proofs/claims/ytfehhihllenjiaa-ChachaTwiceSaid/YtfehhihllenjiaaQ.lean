/- Regions that draw: the orders. -/
import Derived.Test.YtfehhihllenjiaaP
set_option linter.all false
namespace Go.Proofs.Ytfehhihllenjiaa

/-! The edges, taken together. -/
def edF (g : Nat → Nat) (s : Nat) (ed : Edge) : Nat := if Region.binds .any ed then s ||| 2 ^ ed.on ||| g ed.on else s
theorem fold_testBit (g : Nat → Nat) (i : Nat) : ∀ (l : List Edge) (s : Nat), (l.foldl (edF g) s).testBit i = true →
    s.testBit i = true ∨ ∃ ed ∈ l, Region.binds .any ed = true ∧ (ed.on = i ∨ (g ed.on).testBit i = true)
  | [], s, h => .inl h
  | ed :: l, s, h => by
    simp only [List.foldl_cons] at h
    rcases fold_testBit g i l _ h with h1 | ⟨ed', hm, hb, hx⟩
    · by_cases hb : Region.binds .any ed = true
      · simp only [edF, hb, if_true, Nat.testBit_or, Bool.or_eq_true, Nat.testBit_two_pow, decide_eq_true_eq] at h1
        rcases h1 with (h1 | h1) | h1
        · exact .inl h1
        · exact .inr ⟨ed, by simp, hb, .inl h1⟩
        · exact .inr ⟨ed, by simp, hb, .inr h1⟩
      · simp only [edF, hb, Bool.false_eq_true, if_false] at h1
        exact .inl h1
    · exact .inr ⟨ed', by simp [hm], hb, hx⟩

def beF (acc : Array Nat) (o : Oper) : Array Nat := acc.push (o.after.toList.foldl (edF fun i => acc.getD i 0) 0)
theorem before_eq (ops : Array Oper) : Region.before ops = ops.toList.foldl beF #[] := by
  unfold Region.before
  rw [← Array.foldl_toList]
  congr 1
  funext acc o
  unfold beF
  rw [← Array.foldl_toList]
  rfl
theorem edF_congr (g g' : Nat → Nat) (n : Nat) (hg : ∀ i, i < n → g i = g' i) : ∀ (es : List Edge) (s : Nat), (∀ ed ∈ es, Region.binds .any ed = true → ed.on < n) → es.foldl (edF g) s = es.foldl (edF g') s
  | [], s, _ => rfl
  | ed :: es, s, hes => by
    simp only [List.foldl_cons]
    have e1 : edF g s ed = edF g' s ed := by
      unfold edF
      by_cases hb : Region.binds .any ed = true
      · rw [if_pos hb, if_pos hb, hg _ (hes ed (by simp) hb)]
      · rw [if_neg hb, if_neg hb]
    rw [e1]
    exact edF_congr g g' n hg es _ fun x hx => hes x (by simp [hx])
theorem before_fold : ∀ (l : List Oper) (acc : Array Nat),
    ((l.foldl beF acc).size = acc.size + l.length) ∧ (∀ k, k < acc.size → (l.foldl beF acc).getD k 0 = acc.getD k 0) ∧
    ∀ (m : Nat) (o : Oper), l[m]? = some o → (∀ ed ∈ o.after.toList, Region.binds .any ed = true → ed.on < acc.size + m) →
      (l.foldl beF acc).getD (acc.size + m) 0 = o.after.toList.foldl (edF fun i => (l.foldl beF acc).getD i 0) 0
  | [], acc => ⟨by simp, fun k _ => rfl, fun m o h => by simp at h⟩
  | o :: l, acc => by
    obtain ⟨h1, h2, h3⟩ := before_fold l (beF acc o)
    have hsz : (beF acc o).size = acc.size + 1 := by simp [beF]
    have hlt : ∀ k, k < acc.size → (beF acc o).getD k 0 = acc.getD k 0 := fun k hk => by
      simp [beF, Array.getElem?_push, show ¬ k = acc.size by omega]
    have hat : (beF acc o).getD acc.size 0 = o.after.toList.foldl (edF fun i => acc.getD i 0) 0 := by simp [beF]
    simp only [List.foldl_cons]
    refine ⟨by rw [h1, hsz]; simp; omega, fun k hk => (h2 k (by omega)).trans (hlt k hk), fun m o' hm hed => ?_⟩
    cases m with
    | zero =>
      simp only [List.getElem?_cons_zero, Option.some.injEq] at hm
      subst hm
      rw [Nat.add_zero, h2 acc.size (by omega), hat]
      exact edF_congr _ _ acc.size (fun i hi => ((h2 i (by omega)).trans (hlt i hi)).symm) _ _ (fun ed he hb => by have := hed ed he hb; omega)
    | succ m =>
      simp only [List.getElem?_cons_succ] at hm
      have := h3 m o' hm (fun ed he hb => by have := hed ed he hb; omega)
      rw [show acc.size + (m + 1) = (beF acc o).size + m by omega]
      exact this

theorem before_closed {ops : Array Oper} (hed : ∀ (j : Nat) (o : Oper), ops[j]? = some o → ∀ ed ∈ o.after.toList, Region.binds .any ed = true → ed.on < j) {D : Nat → Prop}
    (hD : ∀ (j : Nat) (o : Oper), D j → ops[j]? = some o → ∀ ed ∈ o.after.toList, Region.binds .any ed = true → D ed.on) (i : Nat) : ∀ (j : Nat), j < ops.size → D j → ((Region.before ops).getD j 0).testBit i = true → D i := by
  intro j
  induction j using Nat.strongRecOn with
  | _ j ih =>
    intro hj hDj ht
    obtain ⟨o, ho⟩ : ∃ o, ops[j]? = some o := ⟨ops[j], by simp [hj]⟩
    have hb := (before_fold ops.toList #[]).2.2 j o (by simpa using ho) (fun ed he hb => by have := hed j o ho ed he hb; simpa using this)
    rw [← before_eq] at hb
    rw [show (#[] : Array Nat).size + j = j by simp] at hb
    rw [hb] at ht
    rcases fold_testBit _ i _ _ ht with h0 | ⟨ed, hm, hbd, hx⟩
    · simp at h0
    · have hDe := hD j o hDj ho ed hm hbd
      have hlt := hed j o ho ed hm hbd
      rcases hx with rfl | hx
      · exact hDe
      · exact ih ed.on hlt (by omega) hDe hx

theorem drawOkF_spec {calm : FuncId → Bool} {ops : Array Oper} {F : List Nat} (h : drawOkF calm ops F = true) :
    (∀ (j : Nat) (o : Oper), ops[j]? = some o → ∀ ed ∈ o.after.toList, Region.binds .any ed = true → ed.on < j) ∧
    ∀ (i j : Nat) (oi oj : Oper), i < j → ops[i]? = some oi → ops[j]? = some oj → (oi.dst = none ∨ oi.dst ≠ oj.dst) ∧
      (((Region.before ops).getD j 0).testBit i = true ∨ (oi.apart ops oj = true ∧ (clsOk (clsOf calm oi.op) (clsOf calm oj.op) = true ∨ (readEff (clsOf calm oi.op) (clsOf calm oj.op) = true ∧ F.contains i = true ∧ F.contains j = true)))) := by
  simp only [drawOkF, Bool.and_eq_true, List.all_eq_true] at h
  obtain ⟨h1, h2⟩ := h
  refine ⟨fun j o ho ed hed hb => ?_, fun i j oi oj hij hi hj => ?_⟩
  · have := h1 (o, j) (by
      rw [List.mem_zipIdx_iff_getElem?]
      simpa using ho) ed hed
    simpa [hb] using this
  · have hjn : j < ops.size := (Array.getElem?_eq_some_iff.1 hj).1
    have := h2 j (by simpa using hjn) i (by simpa using hij)
    simp only [pairOkF, hi, hj, Bool.and_eq_true, Bool.or_eq_true] at this
    refine ⟨?_, ?_⟩
    · rcases this.1 with h | h
      · exact .inl (by simpa using h)
      · exact .inr (by simpa using h)
    · rcases this.2 with h | h
      · exact .inl h
      · refine .inr ⟨h.1, ?_⟩
        rcases h.2 with h | h
        · exact .inl h
        · exact .inr ⟨h.1.1, h.1.2, h.2⟩
end Go.Proofs.Ytfehhihllenjiaa
