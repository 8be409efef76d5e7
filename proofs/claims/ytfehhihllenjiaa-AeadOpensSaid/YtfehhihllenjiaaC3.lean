/- Regions that draw: the orders. -/
import Derived.Test.YtfehhihllenjiaaC2
import Derived.Laws.Externs
import Derived.KernelRfl
set_option linter.all false
namespace Go.Proofs.Ytfehhihllenjiaa

/-! The edges, taken together. -/
def edF (g : Nat → Nat) (s : Nat) (ed : Edge) : Nat := if Region.binds .any ed then s ||| 2 ^ ed.on ||| g ed.on else s
theorem fold_testBit (g : Nat → Nat) (i : Nat) : ∀ (l : List Edge) (s : Nat), (l.foldl (edF g) s).testBit i = true →
    s.testBit i = true ∨ ∃ ed ∈ l, Region.binds .any ed = true ∧ (ed.on = i ∨ (g ed.on).testBit i = true)
  | [], s, h => .inl h
  | ed :: l, s, h => by
    simp only [List.foldl_cons] at h
    rcases fold_testBit g i l _ h with h1 | ⟨ed', hm, hb, hx⟩
    · by_cases hb : Region.binds .any ed = true
      · simp only [edF, hb, if_true, Nat.testBit_or, Bool.or_eq_true, Nat.testBit_two_pow, decide_eq_true_eq] at h1
        rcases h1 with (h1 | h1) | h1
        · exact .inl h1
        · exact .inr ⟨ed, by simp, hb, .inl h1⟩
        · exact .inr ⟨ed, by simp, hb, .inr h1⟩
      · simp only [edF, hb, Bool.false_eq_true, if_false] at h1
        exact .inl h1
    · exact .inr ⟨ed', by simp [hm], hb, hx⟩

def beF (acc : Array Nat) (o : Oper) : Array Nat := acc.push (o.after.toList.foldl (edF fun i => acc.getD i 0) 0)
theorem before_eq (ops : Array Oper) : Region.before ops = ops.toList.foldl beF #[] := by
  unfold Region.before
  rw [← Array.foldl_toList]
  congr 1
  funext acc o
  unfold beF
  rw [← Array.foldl_toList]
  rfl
theorem edF_congr (g g' : Nat → Nat) (n : Nat) (hg : ∀ i, i < n → g i = g' i) : ∀ (es : List Edge) (s : Nat), (∀ ed ∈ es, Region.binds .any ed = true → ed.on < n) → es.foldl (edF g) s = es.foldl (edF g') s
  | [], s, _ => rfl
  | ed :: es, s, hes => by
    simp only [List.foldl_cons]
    have e1 : edF g s ed = edF g' s ed := by
      unfold edF
      by_cases hb : Region.binds .any ed = true
      · rw [if_pos hb, if_pos hb, hg _ (hes ed (by simp) hb)]
      · rw [if_neg hb, if_neg hb]
    rw [e1]
    exact edF_congr g g' n hg es _ fun x hx => hes x (by simp [hx])
theorem before_fold : ∀ (l : List Oper) (acc : Array Nat),
    ((l.foldl beF acc).size = acc.size + l.length) ∧ (∀ k, k < acc.size → (l.foldl beF acc).getD k 0 = acc.getD k 0) ∧
    ∀ (m : Nat) (o : Oper), l[m]? = some o → (∀ ed ∈ o.after.toList, Region.binds .any ed = true → ed.on < acc.size + m) →
      (l.foldl beF acc).getD (acc.size + m) 0 = o.after.toList.foldl (edF fun i => (l.foldl beF acc).getD i 0) 0
  | [], acc => ⟨by simp, fun k _ => rfl, fun m o h => by simp at h⟩
  | o :: l, acc => by
    obtain ⟨h1, h2, h3⟩ := before_fold l (beF acc o)
    have hsz : (beF acc o).size = acc.size + 1 := by simp [beF]
    have hlt : ∀ k, k < acc.size → (beF acc o).getD k 0 = acc.getD k 0 := fun k hk => by
      simp [beF, Array.getElem?_push, show ¬ k = acc.size by omega]
    have hat : (beF acc o).getD acc.size 0 = o.after.toList.foldl (edF fun i => acc.getD i 0) 0 := by simp [beF]
    simp only [List.foldl_cons]
    refine ⟨by rw [h1, hsz]; simp; omega, fun k hk => (h2 k (by omega)).trans (hlt k hk), fun m o' hm hed => ?_⟩
    cases m with
    | zero =>
      simp only [List.getElem?_cons_zero, Option.some.injEq] at hm
      subst hm
      rw [Nat.add_zero, h2 acc.size (by omega), hat]
      exact edF_congr _ _ acc.size (fun i hi => ((h2 i (by omega)).trans (hlt i hi)).symm) _ _ (fun ed he hb => by have := hed ed he hb; omega)
    | succ m =>
      simp only [List.getElem?_cons_succ] at hm
      have := h3 m o' hm (fun ed he hb => by have := hed ed he hb; omega)
      rw [show acc.size + (m + 1) = (beF acc o).size + m by omega]
      exact this

theorem before_closed {ops : Array Oper} (hed : ∀ (j : Nat) (o : Oper), ops[j]? = some o → ∀ ed ∈ o.after.toList, Region.binds .any ed = true → ed.on < j) {D : Nat → Prop}
    (hD : ∀ (j : Nat) (o : Oper), D j → ops[j]? = some o → ∀ ed ∈ o.after.toList, Region.binds .any ed = true → D ed.on) (i : Nat) : ∀ (j : Nat), j < ops.size → D j → ((Region.before ops).getD j 0).testBit i = true → D i := by
  intro j
  induction j using Nat.strongRecOn with
  | _ j ih =>
    intro hj hDj ht
    obtain ⟨o, ho⟩ : ∃ o, ops[j]? = some o := ⟨ops[j], by simp [hj]⟩
    have hb := (before_fold ops.toList #[]).2.2 j o (by simpa using ho) (fun ed he hb => by have := hed j o ho ed he hb; simpa using this)
    rw [← before_eq] at hb
    rw [show (#[] : Array Nat).size + j = j by simp] at hb
    rw [hb] at ht
    rcases fold_testBit _ i _ _ ht with h0 | ⟨ed, hm, hbd, hx⟩
    · simp at h0
    · have hDe := hD j o hDj ho ed hm hbd
      have hlt := hed j o ho ed hm hbd
      rcases hx with rfl | hx
      · exact hDe
      · exact ih ed.on hlt (by omega) hDe hx

theorem drawOkF_spec {calm : FuncId → Bool} {ops : Array Oper} {F : List Nat} (h : drawOkF calm ops F = true) :
    (∀ (j : Nat) (o : Oper), ops[j]? = some o → ∀ ed ∈ o.after.toList, Region.binds .any ed = true → ed.on < j) ∧
    ∀ (i j : Nat) (oi oj : Oper), i < j → ops[i]? = some oi → ops[j]? = some oj → (oi.dst = none ∨ oi.dst ≠ oj.dst) ∧
      (((Region.before ops).getD j 0).testBit i = true ∨ (oi.apart ops oj = true ∧ (clsOk (clsOf calm oi.op) (clsOf calm oj.op) = true ∨ (readEff (clsOf calm oi.op) (clsOf calm oj.op) = true ∧ F.contains i = true ∧ F.contains j = true)))) := by
  simp only [drawOkF, Bool.and_eq_true, List.all_eq_true] at h
  obtain ⟨h1, h2⟩ := h
  refine ⟨fun j o ho ed hed hb => ?_, fun i j oi oj hij hi hj => ?_⟩
  · have := h1 (o, j) (by
      rw [List.mem_zipIdx_iff_getElem?]
      simpa using ho) ed hed
    simpa [hb] using this
  · have hjn : j < ops.size := (Array.getElem?_eq_some_iff.1 hj).1
    have := h2 j (by simpa using hjn) i (by simpa using hij)
    simp only [pairOkF, hi, hj, Bool.and_eq_true, Bool.or_eq_true] at this
    refine ⟨?_, ?_⟩
    · rcases this.1 with h | h
      · exact .inl (by simpa using h)
      · exact .inr (by simpa using h)
    · rcases this.2 with h | h
      · exact .inl h
      · refine .inr ⟨h.1, ?_⟩
        rcases h.2 with h | h
        · exact .inl h
        · exact .inr ⟨h.1.1, h.1.2, h.2⟩
end Go.Proofs.Ytfehhihllenjiaa
/- Regions that draw: the run in a drawn order against the run in the text's order. -/
set_option linter.all false
namespace Go.Proofs.Ytfehhihllenjiaa

def dstOf (ops : Array Oper) (j : Nat) : Option Tmp := (ops[j]?).bind (·.dst)
def firstN (n : Nat) (p : Nat → Bool) : Option Nat := (List.range n).find? p
theorem firstN_some {n : Nat} {p : Nat → Bool} {i : Nat} (h : firstN n p = some i) : i < n ∧ p i = true ∧ ∀ j, j < i → p j = false := by
  unfold firstN at h
  have h1 := List.find?_some h
  have h2 := List.mem_of_find?_eq_some h
  refine ⟨by simpa using h2, h1, fun j hj => ?_⟩
  obtain ⟨_, as, bs, hl, has⟩ := List.find?_eq_some_iff_append.1 h
  have hj2 : j ∈ as := by
    have hlen : as.length = i := by
      have h3 : (List.range n)[as.length]? = some i := by rw [hl]; simp
      have h4 : as.length < n := by have := congrArg List.length hl; simp at this; omega
      simpa [h4] using h3
    have h5 : as[j]? = some j := by
      have h6 : (List.range n)[j]? = some j := by have := List.mem_range.1 h2; exact List.getElem?_range (by omega)
      rw [hl, List.getElem?_append_left (by omega)] at h6
      exact h6
    exact List.mem_of_getElem? h5
  simpa using has j hj2
theorem firstN_none {n : Nat} {p : Nat → Bool} (h : firstN n p = none) : ∀ j, j < n → p j = false := by
  intro j hj
  have := List.find?_eq_none.1 h j (by simpa using hj)
  simpa using this

section
variable {call : Value → Phi} {P : Program} {ops : Array Oper} {e e' : Env} {h h' : Heap} (T : Tr call P ops e h e' h') (calm : FuncId → Bool)

def Tr.ED (D : Nat → Bool) : Env := fun t => match firstN ops.size (fun j => D j && (dstOf ops j == some t)) with
  | some j => T.V j
  | none => e t
def isEff (ops : Array Oper) (calm : FuncId → Bool) (j : Nat) : Bool := match ops[j]? with
  | some o => clsOf calm o.op == .eff
  | none => false
def kst (ops : Array Oper) (calm : FuncId → Bool) (D : Nat → Bool) : Nat := (firstN ops.size fun j => isEff ops calm j && !D j).getD ops.size
def Tr.birth (b : Nat) : Nat := (firstN (ops.size + 1) fun i => decide (b < (T.H i).nx)).getD ops.size
def Tr.hD (D : Nat → Bool) : Heap := ⟨fun b => (T.H (max (kst ops calm D) (T.birth b))).obj b, (T.H ops.size).nx⟩

theorem kst_le (D : Nat → Bool) : kst ops calm D ≤ ops.size := by
  unfold kst
  cases hf : firstN ops.size (fun j => isEff ops calm j && !D j) with
  | none => simp
  | some i => simp only [Option.getD_some]; exact Nat.le_of_lt (firstN_some hf).1
theorem kst_below (D : Nat → Bool) {j : Nat} (hj : j < kst ops calm D) (he : isEff ops calm j = true) : D j = true := by
  unfold kst at hj
  cases hf : firstN ops.size (fun j => isEff ops calm j && !D j) with
  | none =>
    rw [hf] at hj
    have := firstN_none hf j (by simpa using hj)
    simpa [he] using this
  | some i =>
    rw [hf] at hj
    have := (firstN_some hf).2.2 j (by simpa using hj)
    simpa [he] using this
theorem kst_at (D : Nat → Bool) (hk : kst ops calm D < ops.size) : isEff ops calm (kst ops calm D) = true ∧ D (kst ops calm D) = false := by
  unfold kst at hk ⊢
  cases hf : firstN ops.size (fun j => isEff ops calm j && !D j) with
  | none => rw [hf] at hk; simp at hk
  | some i =>
    have := (firstN_some hf).2.1
    simp only [Bool.and_eq_true, Bool.not_eq_true'] at this
    simpa using this
theorem kst_unique (D : Nat → Bool) {i : Nat} (hi : i < ops.size) (he : isEff ops calm i = true) (hD : D i = false) (hall : ∀ j, j < i → isEff ops calm j = true → D j = true) : kst ops calm D = i := by
  have h1 : kst ops calm D ≤ i := Nat.le_of_not_lt fun hlt => by have := kst_below calm D hlt he; rw [hD] at this; cases this
  rcases Nat.lt_or_eq_of_le h1 with h2 | h2
  · have := kst_at (ops := ops) calm D (by omega)
    rw [hall _ h2 this.1] at this
    simp at this
  · exact h2
theorem kst_ge (D : Nat → Bool) {i : Nat} (hi : i ≤ ops.size) (hall : ∀ j, j < i → isEff ops calm j = true → D j = true) : i ≤ kst ops calm D := Nat.le_of_not_lt fun hlt => by
  have := kst_at (ops := ops) calm D (by omega)
  rw [hall _ hlt this.1] at this
  simp at this

variable (hmono : ∀ i, i < ops.size → (T.H i).nx ≤ (T.H (i + 1)).nx)
include hmono
theorem Tr.nx_le {i j : Nat} (hij : i ≤ j) (hj : j ≤ ops.size) : (T.H i).nx ≤ (T.H j).nx := by
  induction hij with
  | refl => exact Nat.le_refl _
  | step hs ih => exact Nat.le_trans (ih (by omega)) (hmono _ (by omega))
theorem Tr.birth_le {b i : Nat} (hi : i ≤ ops.size) (hb : b < (T.H i).nx) : T.birth b ≤ i := by
  unfold Tr.birth
  cases hf : firstN (ops.size + 1) (fun i => decide (b < (T.H i).nx)) with
  | none => have := firstN_none hf i (by omega); simp at this; omega
  | some k =>
    simp only [Option.getD_some]
    refine Nat.le_of_not_lt fun hlt => ?_
    have := (firstN_some hf).2.2 i hlt
    simp at this; omega
theorem Tr.birth_gt {b i : Nat} (hi : i ≤ ops.size) (hb : (T.H i).nx ≤ b) (hbn : b < (T.H ops.size).nx) : i < T.birth b := by
  unfold Tr.birth
  cases hf : firstN (ops.size + 1) (fun i => decide (b < (T.H i).nx)) with
  | none => have := firstN_none hf ops.size (by omega); simp at this; omega
  | some k =>
    simp only [Option.getD_some]
    have hk := firstN_some hf
    refine Nat.lt_of_not_le fun hle => ?_
    have h1 := T.nx_le hmono hle hi
    have h2 := hk.2.1
    simp at h2
    omega

omit hmono in
theorem Tr.birth_spec {b : Nat} (hb : b < (T.H ops.size).nx) : T.birth b ≤ ops.size ∧ b < (T.H (T.birth b)).nx := by
  unfold Tr.birth
  cases hf : firstN (ops.size + 1) (fun i => decide (b < (T.H i).nx)) with
  | none => simpa using hb
  | some k =>
    have := firstN_some hf
    simp only [Option.getD_some]
    exact ⟨by omega, by simpa using this.2.1⟩

variable (hF : ∀ i, i < ops.size → isEff ops calm i = false → ∀ b, b < (T.H i).nx → (T.H (i + 1)).obj b = (T.H i).obj b)
include hF
theorem Tr.same {i j : Nat} (hij : i ≤ j) (hj : j ≤ ops.size) (hno : ∀ m, i ≤ m → m < j → isEff ops calm m = false) {b : Nat} (hb : b < (T.H i).nx) : (T.H j).obj b = (T.H i).obj b := by
  induction hij with
  | refl => rfl
  | @step k hs ih =>
    rw [hF k (by omega) (hno k hs (by omega)) b (Nat.lt_of_lt_of_le hb (T.nx_le hmono hs (by omega)))]
    exact ih (by omega) fun m h1 h2 => hno m h1 (by omega)
/-- Between two places with no effect in between, the drawn run's heap reads so. -/
theorem Tr.hD_at {D : Nat → Bool} {i : Nat} (hi : i ≤ ops.size) (hk : i ≤ kst ops calm D) (hno : ∀ m, i ≤ m → m < kst ops calm D → isEff ops calm m = false) {b : Nat} (hb : b < (T.H i).nx) : (T.hD calm D).obj b = (T.H i).obj b := by
  have hbi := T.birth_le hmono hi hb
  simp only [Tr.hD, Nat.max_eq_left (Nat.le_trans hbi hk)]
  exact T.same calm hmono hF hk (kst_le calm D) hno hb
end

/-- A local step against a heap of which it sees a part. -/
structure Seen (μ : Mu) (h : Heap) (w0 : World) (μD : Mu) (hD : Heap) (w : World) : Prop where
  ext : Ext μ μD
  new : ∀ b m, μD b = some m → μ b = some m ∨ (h.nx ≤ b ∧ (w0.heap.size ≤ m.B ∨ ∃ b0 m0, μ b0 = some m0 ∧ (h.obj b0).isSome = true ∧ m0.k ≠ .ro ∧ m0.B = m.B))
  live : ∀ b, b < h.nx → (hD.obj b).isSome = true → (h.obj b).isSome = true
  rel : Rel μD hD w
  pres : Pres μ h w0 w

theorem Seen.old {μ : Mu} {h : Heap} {w0 : World} {μD : Mu} {hD : Heap} {w : World} (hf : Fresh μ h) (s : Seen μ h w0 μD hD w) {b : Nat} {m : Loc} (hb : μD b = some m) (hl : (hD.obj b).isSome = true) (hk : m.k ≠ .ro) :
    w0.heap.size ≤ m.B ∨ ∃ b0 m0, μ b0 = some m0 ∧ (h.obj b0).isSome = true ∧ m0.k ≠ .ro ∧ m0.B = m.B := by
  rcases s.new b m hb with h1 | ⟨_, h1⟩
  · exact .inr ⟨b, m, h1, s.live b (hf.lt h1) hl, hk, rfl⟩
  · exact h1

theorem seen_step {μ : Mu} {h : Heap} {w0 : World} {μD : Mu} {hD : Heap} {w w' : World} (hf : Fresh μ h) (s : Seen μ h w0 μD hD w) {ni nj : Nat} (hni : h.nx ≤ ni) {g g' : Heap} {μr' : Mu} (hgn : g.nx = ni) (hgn' : g'.nx = nj)
    (hagree : ∀ b x, b < ni → g.obj b = some x → (μD b).isSome = true → hD.obj b = some x) (hnone : ∀ b, ni ≤ b → b < nj → μD b = none)
    (st : Step (fun b => if b < ni then μD b else none) μr' g g' w w') {hD' : Heap} (h1 : ∀ b, b < nj → (μr' b).isSome = true → hD'.obj b = g'.obj b ∨ (b < ni ∧ g.obj b = none ∧ hD'.obj b = hD.obj b)) (h2 : ∀ b, nj ≤ b → (μD b).isSome = true → hD'.obj b = hD.obj b)
    (hlive : ∀ b, b < h.nx → (hD'.obj b).isSome = true → (h.obj b).isSome = true) :
    Seen μ h w0 (fun b => if b < nj then μr' b else μD b) hD' w' ∧ Ext μD (fun b => if b < nj then μr' b else μD b) ∧ Ext μr' (fun b => if b < nj then μr' b else μD b) ∧ (∀ B0 ds, MarksOk B0 μD hD w ds → MarksOk B0 (fun b => if b < nj then μr' b else μD b) hD' w' ds) := by
  have hnx : ni ≤ nj := by have := st.nx; omega
  have hr : ∀ b m, b < ni → μD b = some m → μr' b = some m := fun b m hb hm => st.ext b m (by simp [hb, hm])
  have hxD : Ext μD (fun b => if b < nj then μr' b else μD b) := by
    intro b m hb
    by_cases hbj : b < nj
    · simp only [hbj, if_true]
      by_cases hbi : b < ni
      · exact hr b m hbi hb
      · rw [hnone b (by omega) hbj] at hb; cases hb
    · simp only [hbj, if_false]; exact hb
  have hxr : Ext μr' (fun b => if b < nj then μr' b else μD b) := by
    intro b m hb
    have : b < nj := by rw [← hgn']; exact st.fresh.lt hb
    simp only [this, if_true]; exact hb
  have hgl : ∀ b m, b < ni → μD b = some m → (g.obj b).isSome = true → (hD.obj b).isSome = true := fun b m hb hm hl => by
    obtain ⟨x, hx⟩ := Option.isSome_iff_exists.1 hl
    rw [hagree b x hb hx (by simp [hm])]; rfl
  -- what a new entry of the local step is
  have hnew : ∀ b m, μr' b = some m → (b < ni ∧ μD b = some m) ∨ (ni ≤ b ∧ (w.heap.size ≤ m.B ∨ ∃ b0 m0, b0 < ni ∧ μD b0 = some m0 ∧ (g.obj b0).isSome = true ∧ m0.k ≠ .ro ∧ m0.B = m.B)) := by
    intro b m hb
    rcases st.new b m hb with h3 | ⟨h3, h4⟩
    · by_cases hbi : b < ni
      · exact .inl ⟨hbi, by simpa [hbi] using h3⟩
      · simp [hbi] at h3
    · refine .inr ⟨by omega, ?_⟩
      rcases h4 with h4 | ⟨b0, m0, q1, q2, q3, q4⟩
      · exact .inl h4
      · by_cases hb0 : b0 < ni
        · simp only [hb0, if_true] at q1
          exact .inr ⟨b0, m0, hb0, q1, q2, q3, q4⟩
        · simp [hb0] at q1
  have hlv : ∀ b m, b < ni → μD b = some m → (g'.obj b).isSome = true → (g.obj b).isSome = true := fun b m hb hm hl => st.live b (by omega) hl
  -- an entry is the local step's, or an elder one that it does not see
  have hpres : ∀ b m, (∀ b1, b1 < ni → (g.obj b1).isSome = true → b1 ≠ b) → μD b = some m → (hD.obj b).isSome = true → w'.heap[m.B]? = w.heap[m.B]? := by
    intro b m hb hm hl
    refine st.pres.block m.B (s.rel.lt hm hl) fun b1 m1 q1 q2 q3 => ?_
    by_cases hb1 : b1 < ni
    · simp only [hb1, if_true] at q1
      exact s.rel.inj b1 b m1 m q1 hm (hgl b1 m1 hb1 q1 q2) hl (hb b1 hb1 q2) q3
    · simp [hb1] at q1
  have objn : ∀ b m, (if b < nj then μr' b else μD b) = some m → (b < nj ∧ μr' b = some m ∧ hD'.obj b = g'.obj b) ∨ ((∀ b1, b1 < ni → (g.obj b1).isSome = true → b1 ≠ b) ∧ μD b = some m ∧ hD'.obj b = hD.obj b) := by
    intro b m hb
    by_cases hbj : b < nj
    · simp only [hbj, if_true] at hb
      rcases h1 b hbj (by simp [hb]) with h3 | ⟨h3, h4, h5⟩
      · exact .inl ⟨hbj, hb, h3⟩
      · refine .inr ⟨fun b1 q1 q2 q3 => ?_, ?_, h5⟩
        · subst q3; rw [h4] at q2; simp at q2
        · rcases hnew b m hb with ⟨_, r⟩ | ⟨r, _⟩
          · exact r
          · omega
    · simp only [hbj, if_false] at hb
      exact .inr ⟨fun b1 q1 q2 q3 => by omega, hb, h2 b (by omega) (by simp [hb])⟩
  have hrel : Rel (fun b => if b < nj then μr' b else μD b) hD' w' := by
    constructor
    · intro b m o hb ho
      rcases objn b m hb with ⟨q1, q2, q3⟩ | ⟨q1, q2, q3⟩
      · rw [q3] at ho
        exact (st.rel.obj b m o q2 ho).mono hxr
      · rw [q3] at ho
        exact ((s.rel.obj b m o q2 ho).of_heap (hpres b m q1 q2 (by simp [ho]))).mono hxD
    · intro b b' m m' hb hb' hl hl' hne hk
      rcases objn b m hb with ⟨q1, q2, q3⟩ | ⟨q1, q2, q3⟩ <;> rcases objn b' m' hb' with ⟨p1, p2, p3⟩ | ⟨p1, p2, p3⟩
      · rw [q3] at hl; rw [p3] at hl'
        exact st.rel.inj b b' m m' q2 p2 hl hl' hne hk
      · rw [q3] at hl; rw [p3] at hl'
        rcases hnew b m q2 with ⟨r1, r2⟩ | ⟨r1, r2 | ⟨b0, m0, r2, r3, r4, r5, r6⟩⟩
        · exact s.rel.inj b b' m m' r2 p2 (hgl b m r1 r2 (hlv b m r1 r2 hl)) hl' hne hk
        · have := s.rel.lt p2 hl'; omega
        · rw [← r6]
          exact s.rel.inj b0 b' m0 m' r3 p2 (hgl b0 m0 r2 r3 r4) hl' (p1 b0 r2 r4) r5
      · rw [q3] at hl; rw [p3] at hl'
        rcases hnew b' m' p2 with ⟨r1, r2⟩ | ⟨r1, r2 | ⟨b0, m0, r2, r3, r4, r5, r6⟩⟩
        · exact s.rel.inj b b' m m' q2 r2 hl (hgl b' m' r1 r2 (hlv b' m' r1 r2 hl')) hne hk
        · have := s.rel.lt q2 hl; omega
        · rw [← r6]
          exact s.rel.inj b b0 m m0 q2 r3 hl (hgl b0 m0 r2 r3 r4) (Ne.symm (q1 b0 r2 r4)) hk
      · rw [q3] at hl; rw [p3] at hl'
        exact s.rel.inj b b' m m' q2 p2 hl hl' hne hk
  refine ⟨⟨s.ext.trans hxD, ?_, hlive, hrel, ?_⟩, hxD, hxr, ?_⟩
  · intro b m hb
    rcases objn b m hb with ⟨q1, q2, q3⟩ | ⟨q1, q2, q3⟩
    · rcases hnew b m q2 with ⟨r1, r2⟩ | ⟨r1, r2 | ⟨b0, m0, r2, r3, r4, r5, r6⟩⟩
      · exact s.new b m r2
      · exact .inr ⟨by omega, .inl (Nat.le_trans s.pres.size r2)⟩
      · refine .inr ⟨by omega, ?_⟩
        rcases s.old hf r3 (hgl b0 m0 r2 r3 r4) r5 with h5 | ⟨b1, m1, t1, t2, t3, t4⟩
        · exact .inl (by omega)
        · exact .inr ⟨b1, m1, t1, t2, t3, t4.trans r6⟩
    · exact s.new b m q2
  · refine ⟨st.pres.os.trans s.pres.os, st.pres.tape.trans s.pres.tape, st.pres.output.trans s.pres.output, Nat.le_trans s.pres.size st.pres.size, fun B hB hno => ?_⟩
    rw [st.pres.block B (Nat.lt_of_lt_of_le hB s.pres.size) ?_, s.pres.block B hB hno]
    intro b m q1 q2 q3 q4
    by_cases hb : b < ni
    · simp only [hb, if_true] at q1
      rcases s.old hf q1 (hgl b m hb q1 q2) q3 with h5 | ⟨b1, m1, t1, t2, t3, t4⟩
      · omega
      · exact hno b1 m1 t1 t2 t3 (t4.trans q4)
    · simp [hb] at q1
  · rintro B0 ds ⟨rs, rfl, hn, hrs⟩
    refine ⟨rs, rfl, hn, fun r hrm => ?_⟩
    obtain ⟨t1, t2, t3⟩ := hrs r hrm
    have hlt : r < w.heap.size := (Array.getElem?_eq_some_iff.1 t2).1
    refine ⟨t1, ?_, fun b m hb hl => ?_⟩
    · rw [st.pres.block r hlt fun b m q1 q2 _ => ?_]
      · exact t2
      · by_cases hb : b < ni
        · simp only [hb, if_true] at q1
          exact t3 b m q1 (hgl b m hb q1 q2)
        · simp [hb] at q1
    · rcases objn b m hb with ⟨q1, q2, q3⟩ | ⟨q1, q2, q3⟩
      · rw [q3] at hl
        rcases hnew b m q2 with ⟨r1, r2⟩ | ⟨r1, r2 | ⟨b0, m0, r2, r3, r4, r5, r6⟩⟩
        · exact t3 b m r2 (hgl b m r1 r2 (hlv b m r1 r2 hl))
        · omega
        · rw [← r6]; exact t3 b0 m0 r3 (hgl b0 m0 r2 r3 r4)
      · rw [q3] at hl; exact t3 b m q2 hl
end Go.Proofs.Ytfehhihllenjiaa
/- Regions that draw: sound. -/
set_option linter.all false
namespace Go.Proofs.Ytfehhihllenjiaa

theorem ready_spec {ops : Array Oper} {listed : Array Bool} {i : Nat} (h : i ∈ Region.ready .any ops listed) (hsz : listed.size = ops.size) :
    i < ops.size ∧ listed.getD i false = false ∧ ∀ o, ops[i]? = some o → ∀ ed ∈ o.after.toList, Region.binds .any ed = true → listed.getD ed.on false = true := by
  unfold Region.ready at h
  obtain ⟨h1, h2⟩ := List.mem_filter.1 h
  have hi : i < ops.size := List.mem_range.1 h1
  simp only [Bool.and_eq_true, Bool.not_eq_true'] at h2
  refine ⟨hi, ?_, fun o ho ed hed hb => ?_⟩
  · have := h2.1
    have hi2 : i < listed.size := by omega
    simp only [Array.getD_eq_getD_getElem?, Array.getElem?_eq_getElem hi2, Option.getD_some] at this ⊢
    exact this
  · have h3 := h2.2
    rw [ho] at h3
    simp only [Option.map_some, Option.getD_some] at h3
    have h4 := Array.all_eq_true'.1 h3 ed (by simpa using hed)
    simpa [hb] using h4
theorem ready_empty {ops : Array Oper} (hed : ∀ (j : Nat) (o : Oper), ops[j]? = some o → ∀ ed ∈ o.after.toList, Region.binds .any ed = true → ed.on < j) {listed : Array Bool} (hsz : listed.size = ops.size)
    (h : Region.ready .any ops listed = []) : ∀ i, i < ops.size → listed.getD i false = true := by
  intro i
  induction i using Nat.strongRecOn with
  | _ i ih =>
    intro hi
    cases hl : listed.getD i false with
    | true => rfl
    | false =>
      exfalso
      have : i ∈ Region.ready .any ops listed := by
        unfold Region.ready
        refine List.mem_filter.2 ⟨List.mem_range.2 hi, ?_⟩
        have hi2 : i < listed.size := by omega
        have e1 : listed.getD i true = false := by
          simp only [Array.getD_eq_getD_getElem?, Array.getElem?_eq_getElem hi2, Option.getD_some] at hl ⊢
          exact hl
        have ho : ops[i]? = some ops[i] := by simp [hi]
        rw [ho, e1]
        simp only [Bool.not_false, Bool.true_and, Option.map_some, Option.getD_some]
        refine Array.all_eq_true'.2 fun ed hm => ?_
        by_cases hb : Region.binds .any ed = true
        · have hlt := hed i _ ho ed (by simpa using hm) hb
          simp [hb, ih ed.on hlt (by omega)]
        · simp [hb]
      rw [h] at this
      simp at this

theorem firstN_congr {n : Nat} {p q : Nat → Bool} (h : ∀ j, j < n → p j = q j) : firstN n p = firstN n q := by
  cases hp : firstN n p with
  | none =>
    have h1 := firstN_none hp
    cases hq : firstN n q with
    | none => rfl
    | some k =>
      have h2 := firstN_some hq
      have := h1 k h2.1
      rw [h k h2.1, h2.2.1] at this
      cases this
  | some i =>
    have h1 := firstN_some hp
    cases hq : firstN n q with
    | none =>
      have := firstN_none hq i h1.1
      rw [← h i h1.1, h1.2.1] at this
      cases this
    | some k =>
      have h2 := firstN_some hq
      rcases Nat.lt_trichotomy i k with h3 | h3 | h3
      · have := h2.2.2 i h3
        rw [← h i h1.1, h1.2.1] at this; cases this
      · rw [h3]
      · have := h1.2.2 k h3
        rw [h k h2.1, h2.2.1] at this; cases this
theorem set_getD (listed : Array Bool) (i j : Nat) (hi : i < listed.size) : (listed.setIfInBounds i true).getD j false = (listed.getD j false || decide (j = i)) := by
  by_cases h : j = i
  · subst h; simp [hi]
  · simp [Array.getElem?_setIfInBounds_ne (Ne.symm h), h]
theorem count_set (listed : Array Bool) (i : Nat) (hi : i < listed.size) (hf : listed.getD i false = false) : (listed.setIfInBounds i true).toList.count true = listed.toList.count true + 1 := by
  have hl : listed[i] = false := by
    simp only [Array.getD_eq_getD_getElem?, Array.getElem?_eq_getElem hi, Option.getD_some] at hf; exact hf
  rw [Array.toList_setIfInBounds, List.count_set (by simpa using hi)]
  simp [hl]

section
variable {call : Value → Phi} {P : Program} {ops : Array Oper} {e e' : Env} {h h' : Heap} (T : Tr call P ops e h e' h')
theorem ED_some (hdist : ∀ i j, i < j → j < ops.size → ∀ t, dstOf ops i = some t → dstOf ops j ≠ some t) {D : Nat → Bool} {j : Nat} {t : Tmp} (hj : j < ops.size) (hD : D j = true) (hd : dstOf ops j = some t) : T.ED D t = T.V j := by
  unfold Tr.ED
  cases hf : firstN ops.size (fun j => D j && (dstOf ops j == some t)) with
  | none => have := firstN_none hf j hj; simp [hD, hd] at this
  | some k =>
    obtain ⟨h1, h2, h3⟩ := firstN_some hf
    simp only [Bool.and_eq_true, beq_iff_eq] at h2
    rcases Nat.lt_trichotomy k j with hlt | rfl | hgt
    · exact absurd hd (hdist k j hlt hj t h2.2)
    · rfl
    · exact absurd h2.2 (hdist j k hgt h1 t hd)
theorem ED_none {D : Nat → Bool} {t : Tmp} (hn : ∀ j, j < ops.size → D j = true → dstOf ops j ≠ some t) : T.ED D t = e t := by
  unfold Tr.ED
  cases hf : firstN ops.size (fun j => D j && (dstOf ops j == some t)) with
  | none => rfl
  | some k =>
    obtain ⟨h1, h2, h3⟩ := firstN_some hf
    simp only [Bool.and_eq_true, beq_iff_eq] at h2
    exact absurd h2.2 (hn k h1 h2.1)
theorem ED_put (hdist : ∀ i j, i < j → j < ops.size → ∀ t, dstOf ops i = some t → dstOf ops j ≠ some t) {D D' : Nat → Bool} {i : Nat} (hi : i < ops.size) (hD : ∀ j, j < ops.size → D' j = (D j || decide (j = i))) : T.ED D' = putE (T.ED D) (dstOf ops i) (T.V i) := by
  funext t
  by_cases hit : dstOf ops i = some t
  · rw [ED_some T hdist hi (by rw [hD i hi]; simp) hit, hit]
    simp [putE]
  · have e1 : putE (T.ED D) (dstOf ops i) (T.V i) t = T.ED D t := by
      cases hd : dstOf ops i with
      | none => rfl
      | some d => exact upd_other _ _ (fun e => hit (by rw [hd, e]))
    rw [e1]
    by_cases hex : ∃ j, j < ops.size ∧ D j = true ∧ dstOf ops j = some t
    · obtain ⟨j, h1, h2, h3⟩ := hex
      rw [ED_some T hdist h1 h2 h3, ED_some T hdist h1 (by rw [hD j h1, h2]; rfl) h3]
    · rw [ED_none T (fun j h1 h2 h3 => hex ⟨j, h1, h2, h3⟩), ED_none T (fun j h1 h2 h3 => by
        rw [hD j h1] at h2
        simp only [Bool.or_eq_true, decide_eq_true_eq] at h2
        rcases h2 with h2 | rfl
        · exact hex ⟨j, h1, h2, h3⟩
        · exact hit h3)]
theorem E_eq_ED (hdist : ∀ i j, i < j → j < ops.size → ∀ t, dstOf ops i = some t → dstOf ops j ≠ some t) : ∀ i, i ≤ ops.size → T.E i = T.ED (fun j => decide (j < i))
  | 0, _ => by
    rw [T.e0]
    funext t
    rw [ED_none T (fun j _ h2 => by simp at h2)]
  | i + 1, hi => by
    have ho : ops[i]? = some ops[i] := by simp [show i < ops.size by omega]
    rw [(T.st i _ ho).1, E_eq_ED hdist i (by omega)]
    have hd : dstOf ops i = ops[i].dst := by simp [dstOf, ho]
    rw [← hd]
    exact (ED_put T hdist (by omega) fun j hj => by
      by_cases h1 : j < i
      · simp [h1]; omega
      · by_cases h2 : j = i
        · simp [h2]
        · simp [h1, h2]; omega).symm
end

theorem VRL.restrict {μ μg μ' : Mu} (hd : ∀ b, (μg b).isSome = true → ∀ m, μ' b = some m → μ b = some m) : ∀ {l x : List Value}, VRL μg l x → ∀ {y : List Value}, VRL μ' l y → VRL μ l y
  | _, _, .nil, _, .nil => .nil
  | _, _, .cons h t, _, .cons h' t' => .cons (h.restrict hd h') (VRL.restrict hd t t')
theorem ObjRel.restrict {μ μg μ' : Mu} (hd : ∀ b, (μg b).isSome = true → ∀ m, μ' b = some m → μ b = some m) {o : AObj} {mg m : Loc} {wg w : World} (hg : ObjRel μg mg wg o) (h : ObjRel μ' m w o) : ObjRel μ m w o := by
  cases o with
  | row k es cs =>
    obtain ⟨_, _, _, _, _, _, _, _, _, hl, _⟩ := hg
    obtain ⟨h1, h2, h3, h4, arr, el, fr, h5, h6, h7, h8⟩ := h
    exact ⟨h1, h2, h3, h4, arr, el, fr, h5, h6, VRL.restrict hd hl h7, h8⟩
  | loop L =>
    obtain ⟨_, _, _, _, _, hl, _⟩ := hg
    obtain ⟨h1, r, h2, h3, h4, h5, h6⟩ := h
    exact ⟨h1, r, h2, h3, h4, fun t => (hl t).restrict hd (h5 t), h6⟩

/-- What the checks of a run say of its steps. -/
theorem Tr.checked {call : Value → Phi} {P : Program} {ops : Array Oper} {e e' : Env} {h h' : Heap} (T : Tr call P ops e h e' h') {calm : FuncId → Bool} {F : List Nat} {S : Nat → Prop} : ∀ (l : List Oper) (k : Nat), (∀ j, l[j]? = ops[k + j]?) → RunOk call P calm ops F S k l (T.E k) (T.H k) →
    ∀ i o, k ≤ i → ops[i]? = some o → F.contains i = true → wantedA ops (T.E i) o = true → chk calm S (T.E i) (T.H i) (T.H (i + 1)) o.op
  | [], k, hl, _, i, o, hi, ho, _, _ => by
    have := hl (i - k)
    rw [show k + (i - k) = i by omega, ho] at this
    simp at this
  | x :: l, k, hl, hr, i, o, hi, ho, hF, hw => by
    have hk : ops[k]? = some x := by have := hl 0; simpa using this.symm
    have hl' : ∀ j, l[j]? = ops[k + 1 + j]? := fun j => by have := hl (j + 1); simpa [Nat.add_assoc, Nat.add_comm 1 j] using this
    obtain ⟨hE, hst⟩ := T.st k x hk
    simp only [RunOk] at hr
    rcases hst with ⟨hwk, hop⟩ | ⟨hwk, hv, hh⟩
    · rw [if_pos hwk, hop] at hr
      by_cases hik : i = k
      · subst hik
        rw [hk] at ho; cases ho
        exact hr.1 hF
      · exact T.checked l (k + 1) hl' (by rw [hE]; exact hr.2) i o (by omega) ho hF hw
    · rw [if_neg (by simp [hwk])] at hr
      by_cases hik : i = k
      · subst hik
        rw [hk] at ho; cases ho
        rw [hwk] at hw; cases hw
      · exact T.checked l (k + 1) hl' (by rw [hE, hv, hh]; exact hr) i o (by omega) ho hF hw

/-- What the drawn run sees of a ready operation. -/
theorem Tr.pick {call : Value → Phi} {P : Program} {ops : Array Oper} {e e' : Env} {h h' : Heap} (T : Tr call P ops e h e' h') (calm : FuncId → Bool) (F : List Nat) (S : Nat → Prop)
    (hcalm : CalmOk call calm)
    (hmono : ∀ i, i < ops.size → (T.H i).nx ≤ (T.H (i + 1)).nx)
    (hF : ∀ i, i < ops.size → isEff ops calm i = false → ∀ b, b < (T.H i).nx → (T.H (i + 1)).obj b = (T.H i).obj b)
    (hchk : ∀ i o, ops[i]? = some o → F.contains i = true → wantedA ops (T.E i) o = true → chk calm S (T.E i) (T.H i) (T.H (i + 1)) o.op)
    {D D' : Nat → Bool} {i : Nat} (hi : i < ops.size) (hDi : D i = false) (hD' : ∀ j, D' j = (D j || decide (j = i))) {o : Oper} (ho : ops[i]? = some o)
    (hbel : ∀ j oj, j < i → ops[j]? = some oj → D j = false → clsOk (clsOf calm oj.op) (clsOf calm o.op) = true ∨ (readEff (clsOf calm oj.op) (clsOf calm o.op) = true ∧ F.contains j = true ∧ F.contains i = true))
    (habv : ∀ j oj, i < j → ops[j]? = some oj → D j = true → clsOk (clsOf calm o.op) (clsOf calm oj.op) = true ∨ (readEff (clsOf calm o.op) (clsOf calm oj.op) = true ∧ F.contains i = true ∧ F.contains j = true))
    (heffs : ∀ j m, j < m → isEff ops calm j = true → isEff ops calm m = true → D m = true → D j = true) :
    ∃ g g' : Heap, g.nx = (T.H i).nx ∧ g'.nx = (T.H (i + 1)).nx ∧
      (∀ b x, b < (T.H i).nx → g.obj b = some x → (T.H i).obj b = some x ∧ (T.hD calm D).obj b = some x) ∧
      ((wantedA ops (T.E i) o = true ∧ evOp call P (T.E i) g o = some (.ok (T.V i), g')) ∨ (wantedA ops (T.E i) o = false ∧ T.V i = undef ∧ g' = g)) ∧
      (∀ b, b < (T.H (i + 1)).nx → (T.hD calm D').obj b = g'.obj b ∨ (b < (T.H i).nx ∧ g.obj b = none ∧ (T.hD calm D').obj b = (T.hD calm D).obj b)) ∧
      (∀ b, (T.H (i + 1)).nx ≤ b → b < (T.H ops.size).nx → (T.hD calm D').obj b = (T.hD calm D).obj b) ∧
      (∀ b, (T.H i).nx ≤ b → b < (T.H (i + 1)).nx → g'.obj b = (T.H (i + 1)).obj b) := by
  have hefc : ∀ j, isEff ops calm j = true → ∃ oj, ops[j]? = some oj ∧ clsOf calm oj.op = .eff := by
    intro j hj
    unfold isEff at hj
    cases hq : ops[j]? with
    | none => rw [hq] at hj; simp at hj
    | some oj => rw [hq] at hj; exact ⟨oj, rfl, by simpa using hj⟩
  have hst := (T.st i o ho).2
  -- no effect is unordered before 'i'
  have below : clsOk .eff (clsOf calm o.op) = false → (readEff .eff (clsOf calm o.op) = true → F.contains i = false) → ∀ j, j < i → isEff ops calm j = true → D j = true := by
    intro hcl hnf j hj he
    obtain ⟨oj, hoj, hc⟩ := hefc j he
    cases hd : D j with
    | true => rfl
    | false =>
      have := hbel j oj hj hoj hd
      rw [hc, hcl] at this
      rcases this with h1 | ⟨h1, _, h2⟩
      · cases h1
      · rw [hnf h1] at h2; cases h2
  have above : clsOk (clsOf calm o.op) .eff = false → (readEff (clsOf calm o.op) .eff = true → F.contains i = false) → ∀ j, i < j → D j = true → isEff ops calm j = false := by
    intro hcl hnf j hj hd
    cases he : isEff ops calm j with
    | false => rfl
    | true =>
      obtain ⟨oj, hoj, hc⟩ := hefc j he
      have := habv j oj hj hoj hd
      rw [hc, hcl] at this
      rcases this with h1 | ⟨h1, h2, _⟩
      · cases h1
      · rw [hnf h1] at h2; cases h2
  have flagged : F.contains i = false ∨ F.contains i = true := by cases F.contains i <;> simp
  have unsaid : ∀ {c : Cls}, readEff c .eff = false → readEff c .eff = true → F.contains i = false := fun h1 h2 => by rw [h1] at h2; cases h2
  have sameH : isEff ops calm i = false → T.hD calm D' = T.hD calm D := by
    intro hne
    have : (fun j => isEff ops calm j && !D' j) = fun j => isEff ops calm j && !D j := by
      funext j
      rw [hD' j]
      by_cases hji : j = i
      · subst hji; simp [hne]
      · simp [hji]
    unfold Tr.hD kst
    rw [this]
  have eff_eq : isEff ops calm i = (clsOf calm o.op == .eff) := by unfold isEff; rw [ho]
  have step1 : ∀ (_ : (wantedA ops (T.E i) o = true ∧ evOp call P (T.E i) (T.H i) o = some (.ok (T.V i), T.H (i + 1))) ∨ (wantedA ops (T.E i) o = false ∧ T.V i = undef ∧ T.H (i + 1) = T.H i)), True := fun _ => trivial
  have rowsCase : clsOf calm o.op = .read → isEff ops calm i = false → F.contains i = true → ∃ g g' : Heap, g.nx = (T.H i).nx ∧ g'.nx = (T.H (i + 1)).nx ∧
      (∀ b x, b < (T.H i).nx → g.obj b = some x → (T.H i).obj b = some x ∧ (T.hD calm D).obj b = some x) ∧
      ((wantedA ops (T.E i) o = true ∧ evOp call P (T.E i) g o = some (.ok (T.V i), g')) ∨ (wantedA ops (T.E i) o = false ∧ T.V i = undef ∧ g' = g)) ∧
      (∀ b, b < (T.H (i + 1)).nx → (T.hD calm D').obj b = g'.obj b ∨ (b < (T.H i).nx ∧ g.obj b = none ∧ (T.hD calm D').obj b = (T.hD calm D).obj b)) ∧
      (∀ b, (T.H (i + 1)).nx ≤ b → b < (T.H ops.size).nx → (T.hD calm D').obj b = (T.hD calm D).obj b) ∧
      (∀ b, (T.H i).nx ≤ b → b < (T.H (i + 1)).nx → g'.obj b = (T.H (i + 1)).obj b) := by
    intro hc hne hfl
    rcases hst with ⟨hw, hop⟩ | ⟨hw, hv, hh⟩
    · have hck := hchk i o ho hfl hw
      simp only [chk, hc] at hck
      obtain ⟨hnx, hS⟩ := hck
      -- the rows that are read stand as they did
      have keep : ∀ m, m < ops.size → isEff ops calm m = true → F.contains m = true → ∀ b, S b → b < (T.H m).nx → (T.H (m + 1)).obj b = (T.H m).obj b := by
        intro m hm he hFm b hb hlt
        obtain ⟨om, hom, hcm⟩ := hefc m he
        rcases (T.st m om hom).2 with ⟨hwm, _⟩ | ⟨_, _, hhm⟩
        · have := hchk m om hom hFm hwm
          simp only [chk, hcm] at this
          exact this b hb hlt
        · rw [hhm]
      have same : ∀ b ∈ readRows (T.E i) o.op, b < (T.H i).nx → (T.hD calm D).obj b = (T.H i).obj b := by
        intro b hb hlt
        have hbS := hS b hb
        have hbi := T.birth_le hmono (by omega : i ≤ ops.size) hlt
        obtain ⟨_, hbb⟩ := T.birth_spec (Nat.lt_of_lt_of_le hlt (T.nx_le hmono (by omega : i ≤ ops.size) (Nat.le_refl _)))
        have hkn := kst_le (ops := ops) calm D
        by_cases hk : i ≤ kst ops calm D
        · simp only [Tr.hD, Nat.max_eq_left (Nat.le_trans hbi hk)]
          have chain : ∀ k, i ≤ k → k ≤ kst ops calm D → (T.H k).obj b = (T.H i).obj b := by
            intro k hik
            induction hik with
            | refl => exact fun _ => rfl
            | @step k hs ih =>
              intro hkk
              rw [← ih (by omega)]
              have hltk : b < (T.H k).nx := Nat.lt_of_lt_of_le hlt (T.nx_le hmono hs (by omega))
              cases he : isEff ops calm k with
              | false => exact hF k (by omega) he b hltk
              | true =>
                have hDk := kst_below calm D (by omega : k < kst ops calm D) he
                obtain ⟨ok, hok, hck⟩ := hefc k he
                have hik2 : i < k := by
                  rcases Nat.lt_or_eq_of_le hs with h1 | h1
                  · exact h1
                  · subst h1; rw [hDi] at hDk; cases hDk
                rcases habv k ok hik2 hok hDk with h1 | ⟨_, _, h1⟩
                · rw [hc, hck] at h1; cases h1
                · exact keep k (by omega) he h1 b hbS hltk
          exact chain _ hk (Nat.le_refl _)
        · have hs : max (kst ops calm D) (T.birth b) ≤ i := by omega
          have chain : ∀ k, max (kst ops calm D) (T.birth b) ≤ k → k ≤ i → (T.H k).obj b = (T.H (max (kst ops calm D) (T.birth b))).obj b := by
            intro k hik
            induction hik with
            | refl => exact fun _ => rfl
            | @step k hs2 ih =>
              intro hkk
              have hs3 : max (kst ops calm D) (T.birth b) ≤ k := hs2
              have hs4 : kst ops calm D ≤ k := Nat.le_trans (Nat.le_max_left _ _) hs3
              have hs5 : T.birth b ≤ k := Nat.le_trans (Nat.le_max_right _ _) hs3
              rw [← ih (by omega)]
              have hltk : b < (T.H k).nx := Nat.lt_of_lt_of_le hbb (T.nx_le hmono (by omega : T.birth b ≤ k) (by omega))
              cases he : isEff ops calm k with
              | false => exact hF k (by omega) he b hltk
              | true =>
                obtain ⟨ok, hok, hck⟩ := hefc k he
                have hDk : D k = false := by
                  have hat := kst_at (ops := ops) calm D (by omega)
                  cases hd : D k with
                  | false => rfl
                  | true =>
                    rcases Nat.lt_or_eq_of_le (by omega : kst ops calm D ≤ k) with h1 | h1
                    · have := heffs _ k h1 hat.1 he hd; rw [hat.2] at this; cases this
                    · rw [← h1, hat.2] at hd; cases hd
                rcases hbel k ok (by omega) hok hDk with h1 | ⟨_, h1, _⟩
                · rw [hc, hck] at h1; cases h1
                · exact keep k (by omega) he h1 b hbS hltk
          simp only [Tr.hD]
          exact (chain i hs (Nat.le_refl _)).symm
      refine ⟨⟨fun b => if b ∈ readRows (T.E i) o.op then (T.H i).obj b else none, (T.H i).nx⟩, ⟨fun b => if b ∈ readRows (T.E i) o.op then (T.H i).obj b else none, (T.H i).nx⟩, rfl, hnx.symm, ?_, .inl ⟨hw, ?_⟩, ?_, ?_, ?_⟩
      · intro b x hb hx
        by_cases hm : b ∈ readRows (T.E i) o.op
        · simp only [hm, if_true] at hx
          exact ⟨hx, by rw [same b hm hb]; exact hx⟩
        · simp [hm] at hx
      · exact read_local hc hop hnx fun q hq => by simp [hq]
      · intro b hb
        rw [hnx] at hb
        by_cases hm : b ∈ readRows (T.E i) o.op
        · left
          simp only [hm, if_true]
          rw [sameH hne, same b hm hb]
        · right
          exact ⟨hb, by simp [hm], by rw [sameH hne]⟩
      · intro b _ _; rw [sameH hne]
      · intro b h1 h2; omega
    · refine ⟨⟨fun _ => none, (T.H i).nx⟩, ⟨fun _ => none, (T.H i).nx⟩, rfl, by rw [hh], fun b x _ hx => (by cases hx), .inr ⟨hw, hv, rfl⟩, ?_, ?_, ?_⟩
      · intro b hb; rw [hh] at hb; exact .inr ⟨hb, rfl, by rw [sameH hne]⟩
      · intro b _ _; rw [sameH hne]
      · intro b h1 h2; rw [hh] at h2; omega
  cases hc : clsOf calm o.op with
  | pure =>
    have hne : isEff ops calm i = false := by rw [eff_eq, hc]; rfl
    have hsame : T.H (i + 1) = T.H i := by
      rcases hst with ⟨_, hop⟩ | ⟨_, _, hh⟩
      · exact pure_of_cls hcalm hc hop
      · exact hh
    refine ⟨⟨fun _ => none, (T.H i).nx⟩, ⟨fun _ => none, (T.H i).nx⟩, rfl, by rw [hsame], fun b x _ hx => (by cases hx), ?_, ?_, ?_, ?_⟩
    · rcases hst with ⟨hw, hop⟩ | ⟨hw, hv, hh⟩
      · refine .inl ⟨hw, ?_⟩
        rw [pure_same hcalm (h := T.H i) hc, hop]; rfl
      · exact .inr ⟨hw, hv, rfl⟩
    · intro b hb; rw [hsame] at hb; exact .inr ⟨hb, rfl, by rw [sameH hne]⟩
    · intro b _ _; rw [sameH hne]
    · intro b h1 h2; rw [hsame] at h2; omega
  | alloc =>
    have hne : isEff ops calm i = false := by rw [eff_eq, hc]; rfl
    have hloc : ∃ g' : Heap, g'.nx = (T.H (i + 1)).nx ∧ (∀ b, g'.obj b = if (T.H i).nx ≤ b ∧ b < (T.H (i + 1)).nx then (T.H (i + 1)).obj b else none) ∧
        ((wantedA ops (T.E i) o = true ∧ evOp call P (T.E i) ⟨fun _ => none, (T.H i).nx⟩ o = some (.ok (T.V i), g')) ∨ (wantedA ops (T.E i) o = false ∧ T.V i = undef ∧ g' = ⟨fun _ => none, (T.H i).nx⟩)) := by
      rcases hst with ⟨hw, hop⟩ | ⟨hw, hv, hh⟩
      · obtain ⟨_, _, hl⟩ := local_of_cls hcalm (.inr hc) hop
        obtain ⟨g', q1, q2, q3⟩ := hl ⟨fun _ => none, (T.H i).nx⟩ rfl
        exact ⟨g', q2, q3, .inl ⟨hw, q1⟩⟩
      · refine ⟨⟨fun _ => none, (T.H i).nx⟩, by rw [hh], fun b => ?_, .inr ⟨hw, hv, rfl⟩⟩
        rw [hh, if_neg (by omega)]
    obtain ⟨g', q1, q2, q3⟩ := hloc
    have hab := above (by rw [hc]; rfl) (by rw [hc]; exact unsaid rfl)
    refine ⟨⟨fun _ => none, (T.H i).nx⟩, g', rfl, q1, fun b x _ hx => (by cases hx), q3, ?_, ?_, ?_⟩
    · intro b hb
      by_cases hbi : b < (T.H i).nx
      · exact .inr ⟨hbi, rfl, by rw [sameH hne]⟩
      · left
        rw [q2 b, if_pos ⟨by omega, hb⟩, sameH hne]
        have hn : b < (T.H ops.size).nx := Nat.lt_of_lt_of_le hb (T.nx_le hmono (by omega) (Nat.le_refl _))
        have b1 := T.birth_le hmono (by omega : i + 1 ≤ ops.size) hb
        have b2 := T.birth_gt hmono (by omega : i ≤ ops.size) (by omega : (T.H i).nx ≤ b) hn
        have hbe : T.birth b = i + 1 := by omega
        by_cases hk : kst ops calm D ≤ i + 1
        · simp only [Tr.hD, hbe, Nat.max_eq_right hk]
        · exact T.hD_at calm hmono hF (by omega) (by omega) (fun m h1 h2 => by
            cases he : isEff ops calm m with
            | false => rfl
            | true => have := hab m (by omega) (kst_below calm D h2 he); rw [he] at this; cases this) hb
    · intro b _ _; rw [sameH hne]
    · intro b h1 h2; rw [q2 b, if_pos ⟨h1, h2⟩]
  | read =>
    have hne : isEff ops calm i = false := by rw [eff_eq, hc]; rfl
    rcases flagged with hnf | hfl
    case inr => exact rowsCase hc hne hfl
    have hab := above (by rw [hc]; rfl) (fun _ => hnf)
    have hbe := below (by rw [hc]; rfl) (fun _ => hnf)
    have hk : i + 1 ≤ kst ops calm D := by
      have h1 : i ≤ kst ops calm D := kst_ge calm D (by omega) hbe
      rcases Nat.lt_or_eq_of_le h1 with h2 | h2
      · exact h2
      · have h3 := (kst_at (ops := ops) calm D (by omega)).1
        rw [← h2, hne] at h3; cases h3
    have hno : ∀ m, i ≤ m → m < kst ops calm D → isEff ops calm m = false := by
      intro m h1 h2
      cases he : isEff ops calm m with
      | false => rfl
      | true =>
        rcases Nat.lt_or_eq_of_le h1 with h3 | h3
        · have := hab m h3 (kst_below calm D h2 he); rw [he] at this; cases this
        · subst h3; rw [hne] at he; cases he
    refine ⟨T.H i, T.H (i + 1), rfl, rfl, fun b x hb hx => ⟨hx, ?_⟩, hst, ?_, ?_, fun _ _ _ => rfl⟩
    · rw [T.hD_at calm hmono hF (by omega) (by omega) hno hb, hx]
    · intro b hb
      left
      rw [sameH hne, T.hD_at calm hmono hF (by omega) hk (fun m h1 h2 => hno m (by omega) h2) hb]
    · intro b _ _; rw [sameH hne]
  | eff =>
    have heff : isEff ops calm i = true := by rw [eff_eq, hc]; rfl
    have hab : ∀ j, i < j → D j = true → isEff ops calm j = false := by
      intro j hj hd
      cases he : isEff ops calm j with
      | false => rfl
      | true => have := heffs i j hj heff he hd; rw [hDi] at this; cases this
    have hbe := below (by rw [hc]; rfl) (by rw [hc]; intro h1; cases h1)
    have hk : kst ops calm D = i := kst_unique calm D hi heff hDi hbe
    have hk' : i + 1 ≤ kst ops calm D' := kst_ge calm D' (by omega) fun j hj he => by
      rw [hD' j]
      by_cases hji : j = i
      · simp [hji]
      · simp [hbe j (by omega) he]
    have hno' : ∀ m, i + 1 ≤ m → m < kst ops calm D' → isEff ops calm m = false := by
      intro m h1 h2
      cases he : isEff ops calm m with
      | false => rfl
      | true =>
        have h3 := kst_below calm D' h2 he
        rw [hD' m] at h3
        have h4 : D m = true := by
          simp only [Bool.or_eq_true, decide_eq_true_eq] at h3
          rcases h3 with h3 | h3
          · exact h3
          · omega
        have := hab m (by omega) h4; rw [he] at this; cases this
    refine ⟨T.H i, T.H (i + 1), rfl, rfl, fun b x hb hx => ⟨hx, ?_⟩, hst, ?_, ?_, fun _ _ _ => rfl⟩
    · rw [T.hD_at calm hmono hF (by omega) (by omega) (fun m h1 h2 => by omega) hb, hx]
    · intro b hb
      left
      exact T.hD_at calm hmono hF (by omega) hk' hno' hb
    · intro b hb hbn
      have b2 := T.birth_gt hmono (by omega : i + 1 ≤ ops.size) hb hbn
      obtain ⟨b3, b4⟩ := T.birth_spec hbn
      have e1 : (T.hD calm D).obj b = (T.H (T.birth b)).obj b := by
        simp only [Tr.hD, hk, Nat.max_eq_right (by omega : i ≤ T.birth b)]
      rw [e1]
      by_cases hle : kst ops calm D' ≤ T.birth b
      · simp only [Tr.hD, Nat.max_eq_right hle]
      · simp only [Tr.hD, Nat.max_eq_left (by omega : T.birth b ≤ kst ops calm D')]
        exact T.same calm hmono hF (by omega) (kst_le calm D') (fun m h1 h2 => hno' m (by omega) h2) b4
end Go.Proofs.Ytfehhihllenjiaa
/- Regions that draw: sound. -/
set_option linter.all false
namespace Go.Proofs.Ytfehhihllenjiaa

theorem ED_none' {call : Value → Phi} {P : Program} {ops : Array Oper} {e e' : Env} {h h' : Heap} (T : Tr call P ops e h e' h') {D : Nat → Bool} (hD : ∀ j, D j = false) : T.ED D = e := by
  funext t
  exact ED_none T fun j _ h1 => by rw [hD j] at h1; cases h1

theorem draw_sound {P : Program} (hP : ProgOk P) {calm : FuncId → Bool} {call : Value → Phi} (hcall : CallSound P call)
    (hcalm : CalmOk call calm) : DrawSound P calm call := by
  intro id ops F S hok e h e' h' hrun he μ w a b k cs B0 hr hf hE hg hm hB
  obtain ⟨T⟩ := trace_exists he
  obtain ⟨hed, hpair⟩ := drawOkF_spec hok
  have hopn : ∀ i, i < ops.size → ops[i]? = some (ops.getD i default) := fun i hi => by simp [hi]
  have hdst : ∀ (i : Nat) (o : Oper) d, ops[i]? = some o → o.dst = some d → d < a.tmps.size := by
    intro i o d hi hod
    have := List.all_eq_true.1 hg o (by simpa using Array.mem_of_getElem? hi)
    simp only [goodOper, hod, Bool.and_eq_true, decide_eq_true_eq] at this
    exact this.2
  have hgo : ∀ (i : Nat) (o : Oper), ops[i]? = some o → o.op.operands.toList.all goodOpd = true := by
    intro i o hi
    have := List.all_eq_true.1 hg o (by simpa using Array.mem_of_getElem? hi)
    simp only [goodOper, Bool.and_eq_true] at this
    exact this.1
  have hdist : ∀ i j, i < j → j < ops.size → ∀ t, dstOf ops i = some t → dstOf ops j ≠ some t := by
    intro i j hij hj t h1 h2
    have := (hpair i j _ _ hij (hopn i (by omega)) (hopn j hj)).1
    have d1 : (ops.getD i default).dst = some t := by unfold dstOf at h1; rw [hopn i (by omega)] at h1; exact h1
    have d2 : (ops.getD j default).dst = some t := by unfold dstOf at h2; rw [hopn j hj] at h2; exact h2
    rcases this with h3 | h3
    · rw [d1] at h3; cases h3
    · exact h3 (d1.trans d2.symm)
  have hchk : ∀ i o, ops[i]? = some o → F.contains i = true → wantedA ops (T.E i) o = true → chk calm S (T.E i) (T.H i) (T.H (i + 1)) o.op :=
    fun i o ho hFi hw => T.checked ops.toList 0 (fun j => by simp) (by rw [T.e0, T.h0]; exact hrun) i o (Nat.zero_le _) ho hFi hw
  -- the ghost: the run in the text's order
  have ghost1 : ∀ i, i < ops.size → (∃ μg wg, ∃ ag : Act, Step μ μg h (T.H i) w wg ∧ EnvR μg (T.E i) ag.tmps ∧ ag.tmps.size = a.tmps.size) →
      ∃ μg' wg', ∃ ag' : Act, Step μ μg' h (T.H (i + 1)) w wg' ∧ EnvR μg' (T.E (i + 1)) ag'.tmps ∧ ag'.tmps.size = a.tmps.size ∧ (T.H i).nx ≤ (T.H (i + 1)).nx ∧ (∀ b, b < (T.H i).nx → ((T.H (i + 1)).obj b).isSome = true → ((T.H i).obj b).isSome = true) := by
    rintro i hi ⟨μg, wg, ag, s, hEg, hsz⟩
    have ho := hopn i hi
    obtain ⟨hE1, hst⟩ := T.st i _ ho
    have hdst' : ∀ (i : Nat) (o : Oper) d, ops[i]? = some o → o.dst = some d → d < ag.tmps.size := fun i o d h1 h2 => by rw [hsz]; exact hdst i o d h1 h2
    rcases hst with ⟨hw, hop⟩ | ⟨hw, hv, hh⟩
    · have hwa := wanted_sound hEg ops hdst' (ops.getD i default)
      obtain ⟨μ1, w1, s1, v', hv, _⟩ := op_sound hP hcall hop (evs_sound hEg (hgo i _ ho)) s.rel s.fresh b k cs [] ho (by rw [hwa]; exact hw)
      refine ⟨μ1, w1, ag.put (ops.getD i default).dst v', s.trans hf s1, ?_, by rw [put_size]; exact hsz, s1.nx, s1.live⟩
      rw [hE1]
      exact (hEg.mono s1.ext).putE (fun x hx => hdst' i _ x ho hx) hv
    · refine ⟨μg, wg, ag.put (ops.getD i default).dst undef, by rw [hh]; exact s, ?_, by rw [put_size]; exact hsz, by rw [hh]; exact Nat.le_refl _, by rw [hh]; exact fun _ _ hl => hl⟩
      rw [hE1, hv]
      exact hEg.putE (fun x hx => hdst' i _ x ho hx) (.tuple .nil)
  have ghost : ∀ i, i ≤ ops.size → ∃ μg wg, ∃ ag : Act, Step μ μg h (T.H i) w wg ∧ EnvR μg (T.E i) ag.tmps ∧ ag.tmps.size = a.tmps.size := by
    intro i
    induction i with
    | zero => intro _; exact ⟨μ, w, a, by rw [T.h0]; exact .refl hr hf, by rw [T.e0]; exact hE, rfl⟩
    | succ i ih =>
      intro hi
      obtain ⟨μ1, w1, a1, h1, h2, h3, _⟩ := ghost1 i (by omega) (ih (by omega))
      exact ⟨μ1, w1, a1, h1, h2, h3⟩
  have hmono : ∀ i, i < ops.size → (T.H i).nx ≤ (T.H (i + 1)).nx := fun i hi => by
    obtain ⟨_, _, _, _, _, _, h4, _⟩ := ghost1 i hi (ghost i (by omega))
    exact h4
  have hlive1 : ∀ i j, i ≤ j → j ≤ ops.size → ∀ b, b < (T.H i).nx → ((T.H j).obj b).isSome = true → ((T.H i).obj b).isSome = true := by
    intro i j hij
    induction hij with
    | refl => exact fun _ _ _ hl => hl
    | @step k hs ih =>
      intro hj b hb hl
      obtain ⟨_, _, _, _, _, _, _, h5⟩ := ghost1 k (by omega) (ghost k (by omega))
      exact ih (by omega) b hb (h5 b (Nat.lt_of_lt_of_le hb (T.nx_le hmono hs (by omega))) hl)
  have hlive : ∀ i, i ≤ ops.size → ∀ b, b < h.nx → ((T.H i).obj b).isSome = true → (h.obj b).isSome = true := fun i hi b hb hl => by
    obtain ⟨_, _, _, s, _⟩ := ghost i hi
    exact s.live b hb hl
  have hnx0 : ∀ i, i ≤ ops.size → h.nx ≤ (T.H i).nx := fun i hi => by
    obtain ⟨_, _, _, s, _⟩ := ghost i hi
    exact s.nx
  have hF : ∀ i, i < ops.size → isEff ops calm i = false → ∀ b, b < (T.H i).nx → (T.H (i + 1)).obj b = (T.H i).obj b := by
    intro i hi hne
    have ho := hopn i hi
    obtain ⟨_, hst⟩ := T.st i _ ho
    rcases hst with ⟨hw, hop⟩ | ⟨hw, hv, hh⟩
    · unfold isEff at hne
      rw [ho] at hne
      change (clsOf calm (ops.getD i default).op == .eff) = false at hne
      cases hc : clsOf calm (ops.getD i default).op with
      | pure => exact (local_of_cls hcalm (.inl hc) hop).1
      | alloc => exact (local_of_cls hcalm (.inr hc) hop).1
      | read => exact read_of_cls hc hop
      | eff => rw [hc] at hne; simp at hne
    · intro b _; rw [hh]
  -- the drawn run
  have main : ∀ (fuel t : Nat) (listed : Array Bool) (μD : Mu) (wD : World) (aD : Act), listed.size = ops.size → listed.toList.count true + fuel = ops.size →
      (∀ (j : Nat) (o : Oper), listed.getD j false = true → ops[j]? = some o → ∀ ed ∈ o.after.toList, Region.binds .any ed = true → listed.getD ed.on false = true) →
      Seen μ h w μD (T.hD calm fun j => listed.getD j false) wD → EnvR μD (T.ED fun j => listed.getD j false) aD.tmps → aD.tmps.size = a.tmps.size → MarksOk B0 μD (T.hD calm fun j => listed.getD j false) wD aD.defers →
      (∀ b, (μD b).isSome = true → b < h.nx ∨ ∃ j, j < ops.size ∧ listed.getD j false = true ∧ (T.H j).nx ≤ b ∧ b < (T.H (j + 1)).nx) → (∀ j, j < ops.size → listed.getD j false = true → ∀ b, (T.H j).nx ≤ b → b < (T.H (j + 1)).nx → ((T.H (j + 1)).obj b).isSome = true → (μD b).isSome = true) →
      Goes P B0 μ h w a.tmps.size (lone (b.atR aD (.inRegion ops (Region.linearise.go .any ops fuel t listed []) :: k)) cs wD) b k cs .normal e' h' := by
    intro fuel
    -- the end
    have fin : ∀ (listed : Array Bool) (μD : Mu) (wD : World) (aD : Act), (∀ i, i < ops.size → listed.getD i false = true) → Seen μ h w μD (T.hD calm fun j => listed.getD j false) wD → EnvR μD (T.ED fun j => listed.getD j false) aD.tmps → aD.tmps.size = a.tmps.size →
        MarksOk B0 μD (T.hD calm fun j => listed.getD j false) wD aD.defers → (∀ b, (μD b).isSome = true → b < h.nx ∨ ∃ j, j < ops.size ∧ listed.getD j false = true ∧ (T.H j).nx ≤ b ∧ b < (T.H (j + 1)).nx) → (∀ j, j < ops.size → listed.getD j false = true → ∀ b, (T.H j).nx ≤ b → b < (T.H (j + 1)).nx → ((T.H (j + 1)).obj b).isSome = true → (μD b).isSome = true) →
        Goes P B0 μ h w a.tmps.size (lone (b.atR aD (.inRegion ops [] :: k)) cs wD) b k cs .normal e' h' := by
      intro listed μD wD aD hall hs hEd hsz hmk hdom hfl
      have hlt : ∀ b, (μD b).isSome = true → b < (T.H ops.size).nx := fun b hb => by
        rcases hdom b hb with h1 | ⟨j, h1, _, _, h2⟩
        · exact Nat.lt_of_lt_of_le h1 (hnx0 _ (Nat.le_refl _))
        · exact Nat.lt_of_lt_of_le h2 (T.nx_le hmono (by omega) (Nat.le_refl _))
      have hk : kst ops calm (fun j => listed.getD j false) = ops.size := by
        have h1 := kst_le (ops := ops) calm (fun j => listed.getD j false)
        rcases Nat.lt_or_eq_of_le h1 with h2 | h2
        · have := (kst_at calm (fun j => listed.getD j false) h2).2
          rw [hall _ h2] at this; cases this
        · exact h2
      have hobj : ∀ b, (μD b).isSome = true → (T.hD calm fun j => listed.getD j false).obj b = h'.obj b := fun b hb => by
        rw [T.hD_at calm hmono hF (Nat.le_refl _) (by omega) (fun m h1 h2 => by omega) (hlt b hb), T.hn]
      have hEn : T.ED (fun j => listed.getD j false) = e' := by
        refine Eq.trans ?_ T.en
        rw [E_eq_ED T hdist _ (Nat.le_refl _)]
        funext t
        unfold Tr.ED
        have : (fun j => (listed.getD j false && (dstOf ops j == some t))) = fun j => (listed.getD j false && (dstOf ops j == some t)) := rfl
        have hff : firstN ops.size (fun j => listed.getD j false && (dstOf ops j == some t)) = firstN ops.size (fun j => decide (j < ops.size) && (dstOf ops j == some t)) := by
          apply firstN_congr
          intro j hj'
          rw [hall j hj']
          simp [hj']
        rw [hff]
      have hfull : ∀ b, h.nx ≤ b → b < h'.nx → (h'.obj b).isSome = true → (μD b).isSome = true := by
        intro b h1 h2 h3
        rw [← T.hn] at h2 h3
        obtain ⟨b3, b4⟩ := T.birth_spec h2
        have h4 : 0 < T.birth b := T.birth_gt hmono (Nat.zero_le _) (by rw [T.h0]; exact h1) h2
        obtain ⟨j, hj⟩ : ∃ j, T.birth b = j + 1 := ⟨T.birth b - 1, by omega⟩
        rw [hj] at b3 b4
        have h5 : (T.H j).nx ≤ b := Nat.le_of_not_lt fun hlt => by
          have := T.birth_le hmono (by omega : j ≤ ops.size) hlt; omega
        exact hfl j (by omega) (hall j (by omega)) b h5 b4 (hlive1 (j + 1) ops.size (by omega) (Nat.le_refl _) b b4 h3)
      refine ⟨μD, wD, aD, ⟨hs.ext, hs.new, fun b hb hl => hlive ops.size (Nat.le_refl _) b hb (by rw [T.hn]; exact hl), ⟨fun b m o hb ho => hs.rel.obj b m o hb (by rw [hobj b (by simp [hb])]; exact ho), fun b b' m m' hb hb' hl hl' hne hkk => ?_⟩, ?_, by rw [← T.hn]; exact hnx0 _ (Nat.le_refl _), hfull, hs.pres⟩, by rw [← hEn]; exact hEd, hsz, ?_, .one stepR_region_end⟩
      · exact hs.rel.inj b b' m m' hb hb' (by rw [hobj b (by simp [hb])]; exact hl) (by rw [hobj b' (by simp [hb'])]; exact hl') hne hkk
      · intro b hb
        cases hq : μD b with
        | none => rfl
        | some m =>
          have := hlt b (by simp [hq])
          rw [T.hn] at this
          omega
      · obtain ⟨rs, q1, q2, q3⟩ := hmk
        exact ⟨rs, q1, q2, fun r hrm => ⟨(q3 r hrm).1, (q3 r hrm).2.1, fun b m hb hl => (q3 r hrm).2.2 b m hb (by rw [hobj b (by simp [hb])]; exact hl)⟩⟩
    induction fuel with
    | zero =>
      intro t listed μD wD aD hsz hcnt hdown hs hEd hsa hmk hdom hfl
      have hall : ∀ i, i < ops.size → listed.getD i false = true := by
        intro i hi
        have h1 : listed.toList.count true = listed.toList.length := by simp only [Array.length_toList]; omega
        have h2 := List.count_eq_length.1 h1
        have hi2 : i < listed.size := by omega
        have := h2 listed[i] (by simp)
        simp only [Array.getD_eq_getD_getElem?, Array.getElem?_eq_getElem hi2, Option.getD_some]
        exact this.symm
      simp only [Region.linearise.go, List.reverse_nil]
      exact fin listed μD wD aD hall hs hEd hsa hmk hdom hfl
    | succ fuel ih =>
      intro t listed μD wD aD hsz hcnt hdown hs hEd hsa hmk hdom hfl
      have hgoeq : Region.linearise.go .any ops (fuel + 1) t listed [] = match (Region.ready .any ops listed)[t % (Region.ready .any ops listed).length]? with
          | some i => Region.linearise.go .any ops fuel (t / (Region.ready .any ops listed).length) (listed.setIfInBounds i true) [i]
          | none => [].reverse := rfl
      rw [hgoeq]
      cases hi : (Region.ready .any ops listed)[t % (Region.ready .any ops listed).length]? with
      | none =>
        have hnil : Region.ready .any ops listed = [] := by
          cases hrd : Region.ready .any ops listed with
          | nil => rfl
          | cons x xs =>
            rw [hrd] at hi
            have hlt : t % (x :: xs).length < (x :: xs).length := Nat.mod_lt _ (by simp)
            have := List.getElem?_eq_none_iff.1 hi
            omega
        exact fin listed μD wD aD (ready_empty hed hsz hnil) hs hEd hsa hmk hdom hfl
      | some i =>
        simp only [linearise_go_acc .any ops fuel _ _ [i], List.reverse_singleton, List.singleton_append]
        have hmem : i ∈ Region.ready .any ops listed := List.mem_of_getElem? hi
        obtain ⟨hin, hDi, hafter⟩ := ready_spec hmem hsz
        have ho := hopn i hin
        generalize hod : ops.getD i default = o at ho
        have hset : ∀ j, (listed.setIfInBounds i true).getD j false = (listed.getD j false || decide (j = i)) := fun j => set_getD listed i j (by omega)
        have ordA : ∀ j, j < ops.size → listed.getD j false = true → ∀ m, ((Region.before ops).getD j 0).testBit m = true → listed.getD m false = true :=
          fun j hj hd m hb => before_closed hed (D := fun j => listed.getD j false = true) hdown m j hj hd hb
        have hdown' : ∀ (j : Nat) (o : Oper), (listed.setIfInBounds i true).getD j false = true → ops[j]? = some o → ∀ ed ∈ o.after.toList, Region.binds .any ed = true → (listed.setIfInBounds i true).getD ed.on false = true := by
          intro j oj hj hoj ed hm hb
          rw [hset] at hj ⊢
          simp only [Bool.or_eq_true, decide_eq_true_eq] at hj ⊢
          rcases hj with hj | rfl
          · exact .inl (hdown j oj hj hoj ed hm hb)
          · exact .inl (hafter oj hoj ed hm hb)
        have ordB : ∀ m, m < i → ((Region.before ops).getD i 0).testBit m = true → listed.getD m false = true := by
          intro m hm hb
          have := before_closed hed (D := fun j => (listed.setIfInBounds i true).getD j false = true) hdown' m i hin (by rw [hset]; simp) hb
          rw [hset] at this
          simp only [Bool.or_eq_true, decide_eq_true_eq] at this
          rcases this with h1 | h1
          · exact h1
          · omega
        have hbel : ∀ j oj, j < i → ops[j]? = some oj → listed.getD j false = false → oj.apart ops o = true ∧ (clsOk (clsOf calm oj.op) (clsOf calm o.op) = true ∨ (readEff (clsOf calm oj.op) (clsOf calm o.op) = true ∧ F.contains j = true ∧ F.contains i = true)) := by
          intro j oj hj hoj hd
          rcases (hpair j i oj o hj hoj ho).2 with h1 | h1
          · rw [ordB j hj h1] at hd; cases hd
          · exact h1
        have habv : ∀ j oj, i < j → ops[j]? = some oj → listed.getD j false = true → o.apart ops oj = true ∧ (clsOk (clsOf calm o.op) (clsOf calm oj.op) = true ∨ (readEff (clsOf calm o.op) (clsOf calm oj.op) = true ∧ F.contains i = true ∧ F.contains j = true)) := by
          intro j oj hj hoj hd
          have hjn := (Array.getElem?_eq_some_iff.1 hoj).1
          rcases (hpair i j o oj hj ho hoj).2 with h1 | h1
          · rw [ordA j hjn hd i h1] at hDi; cases hDi
          · exact h1
        have agree : ∀ t, t ∈ o.looksAt ops → T.ED (fun j => listed.getD j false) t = T.E i t := by
          intro t ht
          rw [E_eq_ED T hdist i (by omega)]
          have key : ∀ j, j < ops.size → dstOf ops j = some t → listed.getD j false = decide (j < i) := by
            intro j hj hdj
            have hoj := hopn j hj
            have d1 : (ops.getD j default).dst = some t := by unfold dstOf at hdj; rw [hoj] at hdj; exact hdj
            rcases Nat.lt_trichotomy j i with hlt | rfl | hgt
            · rw [decide_eq_true hlt]
              cases hd : listed.getD j false with
              | true => rfl
              | false => exact absurd ht ((Oper.apart_spec (hbel j _ hlt hoj hd).1).1 t d1)
            · rw [hDi]; simp
            · rw [decide_eq_false (by omega)]
              cases hd : listed.getD j false with
              | false => rfl
              | true => exact absurd ht ((Oper.apart_spec (habv j _ hgt hoj hd).1).2.2 t d1)
          unfold Tr.ED
          have hff : firstN ops.size (fun j => listed.getD j false && (dstOf ops j == some t)) = firstN ops.size (fun j => decide (j < i) && (dstOf ops j == some t)) := by
            apply firstN_congr
            intro j hj'
            by_cases hdj : dstOf ops j = some t
            · rw [key j hj' hdj]
            · rw [show (dstOf ops j == some t) = false by simpa using hdj]; simp
          rw [hff]
        have hevx : ∀ x ∈ o.op.operands.toList, ev (T.ED fun j => listed.getD j false) x = ev (T.E i) x := by
          intro x hx
          cases x with
          | tmp t => exact agree t (by simp only [Oper.looksAt, List.mem_append, List.mem_filterMap]; exact .inl ⟨_, hx, rfl⟩)
          | _ => rfl
        have hwe : wantedA ops (T.ED fun j => listed.getD j false) o = wantedA ops (T.E i) o := by
          unfold wantedA
          cases hgd : o.guard with
          | none => rfl
          | some p =>
            obtain ⟨j, want⟩ := p
            simp only [yieldedA]
            cases hdj : (ops[j]?).bind (·.dst) with
            | none => rfl
            | some d => simp only; rw [agree d (by simp [Oper.looksAt, hgd, hdj])]
        have hgo' : o.op.operands.toList.all goodOpd = true := hgo i o ho
        have hdstA : ∀ (i : Nat) (o : Oper) d, ops[i]? = some o → o.dst = some d → d < aD.tmps.size := fun i o d h1 h2 => by rw [hsa]; exact hdst i o d h1 h2
        have hwant := wanted_sound hEd ops hdstA o
        rw [hwe] at hwant
        have hdo : dstOf ops i = o.dst := by simp [dstOf, ho]
        have heffs : ∀ j m, j < m → isEff ops calm j = true → isEff ops calm m = true → listed.getD m false = true → listed.getD j false = true := by
          intro j m hjm hej hem hdm
          have get : ∀ x, isEff ops calm x = true → ∃ ox, ops[x]? = some ox ∧ clsOf calm ox.op = .eff := by
            intro x hx
            unfold isEff at hx
            cases hq : ops[x]? with
            | none => rw [hq] at hx; simp at hx
            | some ox => rw [hq] at hx; exact ⟨ox, rfl, by simpa using hx⟩
          obtain ⟨oj, hoj, hcj⟩ := get j hej
          obtain ⟨om, hom, hcm⟩ := get m hem
          have hmn := (Array.getElem?_eq_some_iff.1 hom).1
          rcases (hpair j m oj om hjm hoj hom).2 with h1 | ⟨_, h1⟩
          · exact ordA m hmn hdm j h1
          · rw [hcj, hcm] at h1
            rcases h1 with h1 | ⟨h1, _⟩ <;> cases h1
        obtain ⟨g, g', hgn, hgn', hgag, hgst, hh1, hh2, hgnew⟩ := T.pick calm F S hcalm hmono hF hchk (D := fun j => listed.getD j false) (D' := fun j => (listed.setIfInBounds i true).getD j false) hin hDi hset ho
          (fun j oj h1 h2 h3 => (hbel j oj h1 h2 h3).2) (fun j oj h1 h2 h3 => (habv j oj h1 h2 h3).2) heffs
        -- the part that the operation sees
        obtain ⟨μg, wg, ag, sg, hEg, hszg⟩ := ghost i (by omega)
        have hnx := hmono i hin
        have hn0 := hnx0 i (by omega)
        have hdr : ∀ b, (μg b).isSome = true → ∀ m, μD b = some m → (fun b => if b < (T.H i).nx then μD b else none) b = some m := by
          intro b hb m hm
          obtain ⟨m', hm'⟩ := Option.isSome_iff_exists.1 hb
          have : b < (T.H i).nx := sg.fresh.lt hm'
          simp only [this, if_true]; exact hm
        have hrel : Rel (fun b => if b < (T.H i).nx then μD b else none) g wD := by
          constructor
          · intro b m x hb hx
            by_cases hbi : b < (T.H i).nx
            · simp only [hbi, if_true] at hb
              obtain ⟨hHi, hhD⟩ := hgag b x hbi hx
              have hmg : ∃ mg, μg b = some mg := by
                rcases hs.new b m hb with h1 | ⟨h1, _⟩
                · exact ⟨m, sg.ext b m h1⟩
                · exact Option.isSome_iff_exists.1 (sg.full b h1 hbi (by rw [hHi]; rfl))
              obtain ⟨mg, hmg⟩ := hmg
              exact ObjRel.restrict hdr (sg.rel.obj b mg x hmg hHi) (hs.rel.obj b m x hb hhD)
            · simp [hbi] at hb
          · intro b b' m m' hb hb' hl hl' hne hk
            by_cases hbi : b < (T.H i).nx
            · by_cases hbi' : b' < (T.H i).nx
              · simp only [hbi, hbi', if_true] at hb hb'
                obtain ⟨x, hx⟩ := Option.isSome_iff_exists.1 hl
                obtain ⟨x', hx'⟩ := Option.isSome_iff_exists.1 hl'
                exact hs.rel.inj b b' m m' hb hb' (by rw [(hgag b x hbi hx).2]; rfl) (by rw [(hgag b' x' hbi' hx').2]; rfl) hne hk
              · simp [hbi'] at hb'
            · simp [hbi] at hb
        have hfr : Fresh (fun b => if b < (T.H i).nx then μD b else none) g := by
          intro b hb
          simp only [show ¬ b < (T.H i).nx by omega, if_false]
        have hstep : ∃ μr' wD' v', Step (fun b => if b < (T.H i).nx then μD b else none) μr' g g' wD wD' ∧ VR μr' (T.V i) v' ∧
            Steps P (lone (b.atR aD (.inRegion ops (i :: (Region.linearise.go .any ops fuel (t / (Region.ready .any ops listed).length) (listed.setIfInBounds i true) [])) :: k)) cs wD) (lone (b.atR (aD.put o.dst v') (.inRegion ops (Region.linearise.go .any ops fuel (t / (Region.ready .any ops listed).length) (listed.setIfInBounds i true) []) :: k)) cs wD') := by
          rcases hgst with ⟨hw, hop⟩ | ⟨hw, hv, hgg⟩
          · have hev0 : ∀ x ∈ o.op.operands.toList, VR (fun b => if b < (T.H i).nx then μD b else none) (ev (T.E i) x) (aD.eval x) := by
              intro x hx
              refine VR.restrict hdr (evs_sound hEg hgo' x hx) ?_
              rw [← hevx x hx]
              exact evs_sound hEd hgo' x hx
            obtain ⟨μr', wD', st, v', hv, hsteps⟩ := op_sound hP hcall hop hev0 hrel hfr b k cs (Region.linearise.go .any ops fuel (t / (Region.ready .any ops listed).length) (listed.setIfInBounds i true) []) ho (by rw [hwant]; exact hw)
            exact ⟨μr', wD', v', st, hv, hsteps⟩
          · refine ⟨_, wD, undef, by rw [hgg]; exact .refl hrel hfr, by rw [hv]; exact .tuple .nil, .one ?_⟩
            have := stepR_op_skip (P := P) (b := b) (a := aD) (k := k) (cs := cs) (w := wD) (ops := ops) (i := i) (rest := Region.linearise.go .any ops fuel (t / (Region.ready .any ops listed).length) (listed.setIfInBounds i true) []) (by simp [ho]; rw [hwant]; simpa using hw)
            rw [ho] at this
            exact this
        obtain ⟨μr', wD', v', st, hv', hsteps⟩ := hstep
        have hdomlt : ∀ b, (μD b).isSome = true → b < (T.H ops.size).nx := fun b hb => by
          rcases hdom b hb with h1 | ⟨j, h1, _, _, h2⟩
          · exact Nat.lt_of_lt_of_le h1 (hnx0 _ (Nat.le_refl _))
          · exact Nat.lt_of_lt_of_le h2 (T.nx_le hmono (by omega) (Nat.le_refl _))
        have hnone : ∀ b, (T.H i).nx ≤ b → b < (T.H (i + 1)).nx → μD b = none := by
          intro b h1 h2
          cases hq : μD b with
          | none => rfl
          | some m =>
            rcases hdom b (by simp [hq]) with h3 | ⟨j, h3, h4, h5, h6⟩
            · omega
            · exfalso
              rcases Nat.lt_trichotomy j i with h7 | rfl | h7
              · have := T.nx_le hmono (by omega : j + 1 ≤ i) (by omega); omega
              · rw [hDi] at h4; cases h4
              · have := T.nx_le hmono (by omega : i + 1 ≤ j) (by omega); omega
        obtain ⟨s', x1, x2, x3⟩ := seen_step hf hs hn0 hgn hgn' (fun b x hb hx _ => (hgag b x hb hx).2) hnone st (hD' := T.hD calm fun j => (listed.setIfInBounds i true).getD j false)
          (fun b hb _ => hh1 b hb) (fun b hb hm => hh2 b hb (hdomlt b hm)) (fun b hb hl => by
            refine hlive _ ?_ b hb hl
            have h1 := kst_le (ops := ops) calm (fun j => (listed.setIfInBounds i true).getD j false)
            have h2 := T.birth_le hmono (Nat.zero_le _) (by rw [T.h0]; exact hb : b < (T.H 0).nx)
            omega)
        refine Goes.of_steps hsteps (ih _ (listed.setIfInBounds i true) _ wD' (aD.put o.dst v') (by simpa using hsz) (by rw [count_set listed i (by omega) hDi]; omega) hdown' s' ?_ (by rw [put_size]; exact hsa) (by rw [put_defers]; exact x3 _ _ hmk) ?_ ?_)
        · rw [ED_put T hdist hin (fun j _ => hset j), hdo]
          exact (hEd.mono x1).putE (fun x hx => hdstA i o x ho hx) (hv'.mono x2)
        · intro b hb
          by_cases hbj : b < (T.H (i + 1)).nx
          · simp only [hbj, if_true] at hb
            by_cases hbi : b < (T.H i).nx
            · obtain ⟨m, hm⟩ := Option.isSome_iff_exists.1 hb
              rcases st.new b m hm with h1 | ⟨h1, _⟩
              · simp only [hbi, if_true] at h1
                rcases hdom b (by simp [h1]) with h2 | ⟨j, h2, h3, h4⟩
                · exact .inl h2
                · exact .inr ⟨j, h2, by rw [hset, h3]; rfl, h4⟩
              · omega
            · exact .inr ⟨i, hin, by rw [hset]; simp, by omega, hbj⟩
          · simp only [hbj, if_false] at hb
            rcases hdom b hb with h2 | ⟨j, h2, h3, h4⟩
            · exact .inl h2
            · exact .inr ⟨j, h2, by rw [hset, h3]; rfl, h4⟩
        · intro j hj hd b h1 h2 h3
          rw [hset] at hd
          simp only [Bool.or_eq_true, decide_eq_true_eq] at hd
          rcases hd with hd | rfl
          · obtain ⟨m, hm⟩ := Option.isSome_iff_exists.1 (hfl j hj hd b h1 h2 h3)
            exact (congrArg Option.isSome (x1 b m hm)).trans rfl
          · simp only [h2, if_true]
            exact st.full b (by omega) (by omega) (by rw [hgnew b h1 h2]; exact h3)
  have hD0 : ∀ j, (Array.replicate ops.size false).getD j false = false := by
    intro j
    by_cases hj : j < ops.size <;> simp [hj]
  have h0 : ∀ b, b < h.nx → (T.hD calm fun j => (Array.replicate ops.size false).getD j false).obj b = h.obj b := by
    intro b hb
    have hno : ∀ m, 0 ≤ m → m < kst ops calm (fun j => (Array.replicate ops.size false).getD j false) → isEff ops calm m = false := by
      intro m _ h2
      cases hq : isEff ops calm m with
      | false => rfl
      | true => have := kst_below calm _ h2 hq; rw [hD0] at this; cases this
    rw [T.hD_at calm hmono hF (Nat.zero_le _) (Nat.zero_le _) hno (by rw [T.h0]; exact hb), T.h0]
  have r0 := (Step.drew hr hf).rel
  have start := main ops.size (w.tape w.drawn (.order b.fn id)) (Array.replicate ops.size false) μ w.drew a (by simp) (by simp [List.count_replicate]) (by intro j o hj; rw [hD0] at hj; cases hj)
    ⟨.refl μ, fun b m hb => .inl hb, fun b hb hl => by rw [h0 b hb] at hl; exact hl,
      ⟨fun b m x hb hx => r0.obj b m x hb (by rw [← h0 b (hf.lt hb)]; exact hx), fun b b' m m' hb hb' hl hl' => r0.inj b b' m m' hb hb' (by rw [← h0 b (hf.lt hb)]; exact hl) (by rw [← h0 b' (hf.lt hb')]; exact hl')⟩, (Step.drew hr hf).pres⟩
    (by rw [ED_none' T hD0]; exact hE) rfl (by
      obtain ⟨rs, q1, q2, q3⟩ := hm.step hf (Step.drew hr hf)
      exact ⟨rs, q1, q2, fun r hrm => ⟨(q3 r hrm).1, (q3 r hrm).2.1, fun b m hb hl => (q3 r hrm).2.2 b m hb (by rw [← h0 b (hf.lt hb)]; exact hl)⟩⟩)
    (fun b hb => by obtain ⟨m, hm⟩ := Option.isSome_iff_exists.1 hb; exact .inl (hf.lt hm)) (fun j hj hd => by rw [hD0] at hd; cases hd)
  refine Goes.of_steps (.one ?_) start
  have := stepR_region_draw (P := P) (b := b) (a := a) (k := k) (cs := cs) (w := w) (ops := ops) (id := id)
  rw [this]
  simp only [Region.schedule, hP.mixed, Bool.true_or, if_true]
  rfl
end Go.Proofs.Ytfehhihllenjiaa
/- The whole evaluator, sound; the plain configuration. -/
set_option linter.all false
namespace Go.Proofs.Ytfehhihllenjiaa

theorem evF_sound {cfg : Cfg} (hC : CfgOk cfg) (d : Nat) {f : FuncId} {fn : Func} (hfn : cfg.P.funcs[f]? = some fn) (hg : goodFn fn = true) : SimF cfg.P f (evF cfg d f) := by
  have := body_sound (evD_sound hC (fun call h1 h2 => draw_sound hC.prog h1 h2) d) hfn hg
  have e : evF cfg d f = evBody cfg.P (evD cfg d) fn := by funext args h; unfold evF; rw [hfn]
  rw [e]; exact this

def inlOf (P : Program) (f : FuncId) : Bool := match P.funcs[f]? with
  | some fn => goodFn fn && !(fn.name == "runtime.NumGoroutine") && fn.body.isSome
  | none => false
/-- Types that hold plain data alone. -/
def plainT (P : Program) : Nat → TypeId → Bool
  | 0, _ => false
  | d + 1, t => match P.underlying t with
    | some .bool | some (.int _) | some .string => true
    | some (.struct fs) => fs.toList.all fun f => plainT P d f.type
    | some (.array _ e) => plainT P d e
    | _ => false
def isoOf (P : Program) (f : FuncId) : Bool := match P.funcs[f]? with
  | some fn => fn.params.toList.all (plainT P 6) && fn.resultTypes.toList.all (plainT P 6) && decide (fn.nfree = 0)
  | none => false
/-! Functions of which the model holds an entry: bits.Add64. -/
def add64V : List Value → Option Value
  | [.int .u64 x, .int .u64 y, .int .u64 c] => if 0 ≤ x ∧ 0 ≤ y ∧ 0 ≤ c ∧ c ≤ 1 then some (.tuple #[.int .u64 ((x + y + c) % 18446744073709551616), .int .u64 ((x + y + c) / 18446744073709551616)]) else none
  | _ => none
def extOf (P : Program) (f : FuncId) : Option (List Value → Option Value) := match P.funcs[f]? with
  | some fn => if fn.name = "math/bits.Add64" ∧ fn.body.isNone = true ∧ (Extern.findNext fn).isNone = true then some add64V else none
  | none => none
theorem look1 : Extern.allGenericRows.lookup "math/bits.Add64" = none := by kernel_rfl
theorem look2 : Extern.allTypedRows.lookup "math/bits.Add64" = none := by kernel_rfl
theorem look3 : Extern.allRows.lookup "math/bits.Add64" = some add64Entry := by kernel_rfl
theorem find_add64 {fn : Func} (h : fn.name = "math/bits.Add64") : Extern.find fn = some add64Entry := by
  unfold Extern.find
  simp only [h, look1, look2, look3]
  rfl
theorem extOf_spec {P : Program} {f : FuncId} {g : List Value → Option Value} (he : extOf P f = some g) (args : List Value) (v : Value) (hv : g args = some v) :
    args.all (closedV 8) = true ∧ closedV 8 v = true ∧ ∀ w, (callFunc f args.toArray).run P w = .ok (.value v) w := by
  unfold extOf at he
  split at he
  case h_2 => cases he
  case h_1 fn hfn =>
  split at he
  case isFalse => cases he
  case isTrue hc =>
  obtain ⟨hn, hb, hx⟩ := hc
  cases he
  unfold add64V at hv
  split at hv
  case h_2 => cases hv
  case h_1 x y c =>
  split at hv
  case isFalse => cases hv
  case isTrue hr =>
  cases hv
  refine ⟨rfl, rfl, fun w => ?_⟩
  have hx2 : Extern.findNext fn = none := by
    cases h : Extern.findNext fn with
    | none => rfl
    | some _ => rw [h] at hx; cases hx
  rw [run_callFunc_extern hfn (by rw [hn]; rfl) hb hx2 (find_add64 hn)]
  show ((add64Entry #[.int .u64 x, .int .u64 y, .int .u64 c]).run P w).andThen _ = _
  rw [run_add64 x y c hr.1 hr.2.1 hr.2.2.1 hr.2.2.2]
  rfl
def cfg0 (P : Program) : Cfg := ⟨P, fun _ => none, isoOf P, inlOf P, isoOf P, 2 ^ 64, extOf P⟩
theorem inlOf_spec {P : Program} {f : FuncId} (h : inlOf P f = true) : ∃ fn, P.funcs[f]? = some fn ∧ goodFn fn = true ∧ (fn.name == "runtime.NumGoroutine") = false ∧ fn.body.isNone = false := by
  unfold inlOf at h
  split at h
  · rename_i fn hfn
    simp only [Bool.and_eq_true, Bool.not_eq_true'] at h
    exact ⟨fn, hfn, h.1.1, h.1.2, by cases hb : fn.body with | none => rw [hb] at h; simp at h | some c => rfl⟩
  · cases h
theorem cfg0_ok {P : Program} (hP : ProgOk P) : CfgOk (cfg0 P) :=
  { prog := hP
    spec := fun f φ h => nomatch h
    body := fun f φ h => nomatch h
    inl := fun f h => inlOf_spec h
    calm := fun f h => ⟨rfl, h⟩
    ext := fun f g h args v hv => extOf_spec h args v hv }

end Go.Proofs.Ytfehhihllenjiaa
/- Words as bit vectors, and the rules by which the evaluator is rewritten. -/
set_option linter.all false
namespace Go.Proofs.Ytfehhihllenjiaa

def w8 (x : BitVec 8) : Value := .int .u8 x.toNat
def w32 (x : BitVec 32) : Value := .int .u32 x.toNat
def w64 (x : BitVec 64) : Value := .int .u64 x.toNat
/-- An int that is not below nothing. -/
def iv (n : Nat) : Value := .int .i64 n

theorem lit_w8 (n : Nat) (h : n < 256) : Value.int .u8 (no_index (OfNat.ofNat n) : Int) = w8 (BitVec.ofNat 8 n) := by
  unfold w8; rw [BitVec.toNat_ofNat, Nat.mod_eq_of_lt h]; rfl
theorem lit_w32 (n : Nat) (h : n < 4294967296) : Value.int .u32 (no_index (OfNat.ofNat n) : Int) = w32 (BitVec.ofNat 32 n) := by
  unfold w32; rw [BitVec.toNat_ofNat, Nat.mod_eq_of_lt h]; rfl
theorem lit_w64 (n : Nat) (h : n < 18446744073709551616) : Value.int .u64 (no_index (OfNat.ofNat n) : Int) = w64 (BitVec.ofNat 64 n) := by
  unfold w64; rw [BitVec.toNat_ofNat, Nat.mod_eq_of_lt h]; rfl
theorem lit_iv (n : Nat) : Value.int .i64 (no_index (OfNat.ofNat n) : Int) = iv n := rfl

/-! numbers of so many bits -/
section
variable {k : IntKind} (hk : k.signed = false) (x y : BitVec k.bits)
include hk
theorem wrapU (n : Int) : k.wrap n = n % (2 ^ k.bits : Int) := by unfold IntKind.wrap; simp [hk]
theorem wrapU_nat (n : Nat) : k.wrap (n : Int) = ((n % 2 ^ k.bits : Nat) : Int) := by rw [wrapU hk]; simp
theorem u_add : evIntOp .add k x.toNat y.toNat = some (.int k (x + y).toNat) := by
  simp only [evIntOp, Option.some.injEq, Value.int.injEq, true_and]
  rw [show (x.toNat : Int) + y.toNat = ((x.toNat + y.toNat : Nat) : Int) by simp, wrapU_nat hk, BitVec.toNat_add]
theorem u_sub : evIntOp .sub k x.toNat y.toNat = some (.int k (x - y).toNat) := by
  simp only [evIntOp, Option.some.injEq, Value.int.injEq, true_and]
  rw [wrapU hk, BitVec.toNat_sub]
  have hx := x.isLt
  have hy := y.isLt
  rw [show ((2 : Int) ^ k.bits) = ((2 ^ k.bits : Nat) : Int) by simp]
  rw [show (x.toNat : Int) - y.toNat = ((2 ^ k.bits - y.toNat + x.toNat : Nat) : Int) - ((2 ^ k.bits : Nat) : Int) by omega]
  rw [Int.sub_emod_right]
  exact (Int.natCast_emod _ _).symm
theorem u_mul : evIntOp .mul k x.toNat y.toNat = some (.int k (x * y).toNat) := by
  simp only [evIntOp, Option.some.injEq, Value.int.injEq, true_and]
  rw [show (x.toNat : Int) * y.toNat = ((x.toNat * y.toNat : Nat) : Int) by simp, wrapU_nat hk, BitVec.toNat_mul]
theorem u_and : evIntOp .and k x.toNat y.toNat = some (.int k (x &&& y).toNat) := by
  simp only [evIntOp, Option.some.injEq, Value.int.injEq, true_and, BitVec.ofInt_natCast, BitVec.ofNat_toNat, BitVec.setWidth_eq]
  rw [wrapU_nat hk, Nat.mod_eq_of_lt (BitVec.isLt _)]
theorem u_or : evIntOp .or k x.toNat y.toNat = some (.int k (x ||| y).toNat) := by
  simp only [evIntOp, Option.some.injEq, Value.int.injEq, true_and, BitVec.ofInt_natCast, BitVec.ofNat_toNat, BitVec.setWidth_eq]
  rw [wrapU_nat hk, Nat.mod_eq_of_lt (BitVec.isLt _)]
theorem u_xor : evIntOp .xor k x.toNat y.toNat = some (.int k (x ^^^ y).toNat) := by
  simp only [evIntOp, Option.some.injEq, Value.int.injEq, true_and, BitVec.ofInt_natCast, BitVec.ofNat_toNat, BitVec.setWidth_eq]
  rw [wrapU_nat hk, Nat.mod_eq_of_lt (BitVec.isLt _)]
theorem u_andNot : evIntOp .andNot k x.toNat y.toNat = some (.int k (x &&& ~~~y).toNat) := by
  simp only [evIntOp, Option.some.injEq, Value.int.injEq, true_and, BitVec.ofInt_natCast, BitVec.ofNat_toNat, BitVec.setWidth_eq]
  rw [wrapU_nat hk, Nat.mod_eq_of_lt (BitVec.isLt _)]
theorem u_quo (hy : y ≠ 0) : evIntOp .quo k x.toNat y.toNat = some (.int k (x / y).toNat) := by
  have h0 : ¬ ((y.toNat : Int) = 0) := fun h => hy (BitVec.eq_of_toNat_eq (by simp; omega))
  simp only [evIntOp, h0, if_false, Option.some.injEq, Value.int.injEq, true_and]
  rw [Int.tdiv_eq_ediv_of_nonneg (by omega), show (x.toNat : Int) / y.toNat = ((x.toNat / y.toNat : Nat) : Int) by simp, wrapU_nat hk, BitVec.toNat_udiv, Nat.mod_eq_of_lt]
  exact Nat.lt_of_le_of_lt (Nat.div_le_self _ _) x.isLt
theorem u_shl (n : Nat) : evShift .shl k x.toNat (n : Int) = some (.int k (x <<< n).toNat) := by
  have h0 : ¬ ((n : Int) < 0) := by omega
  simp only [evShift, h0, if_false, Option.some.injEq, Value.int.injEq, true_and, Int.toNat_natCast]
  rw [show (x.toNat : Int) * 2 ^ (min n k.bits) = ((x.toNat * 2 ^ (min n k.bits) : Nat) : Int) by simp, wrapU_nat hk, BitVec.toNat_shiftLeft, Nat.shiftLeft_eq]
  congr 1
  by_cases hn : n ≤ k.bits
  · rw [Nat.min_eq_left hn]
  · rw [Nat.min_eq_right (by omega), Nat.mul_mod_left]
    have : 2 ^ n = 2 ^ k.bits * 2 ^ (n - k.bits) := by rw [← Nat.pow_add]; congr 1; omega
    rw [this, Nat.mul_left_comm, Nat.mul_mod_right]
theorem u_shr (n : Nat) : evShift .shr k x.toNat (n : Int) = some (.int k (x >>> n).toNat) := by
  have h0 : ¬ ((n : Int) < 0) := by omega
  simp only [evShift, h0, if_false, Option.some.injEq, Value.int.injEq, true_and, Int.toNat_natCast]
  rw [Int.fdiv_eq_ediv_of_nonneg _ (by simp [Int.pow_nonneg]), show (x.toNat : Int) / 2 ^ (min n k.bits) = ((x.toNat / 2 ^ (min n k.bits) : Nat) : Int) by simp, BitVec.toNat_ushiftRight, Nat.shiftRight_eq_div_pow]
  congr 1
  by_cases hn : n ≤ k.bits
  · rw [Nat.min_eq_left hn]
  · rw [Nat.min_eq_right (by omega), Nat.div_eq_of_lt x.isLt, Nat.div_eq_of_lt]
    exact Nat.lt_of_lt_of_le x.isLt (Nat.pow_le_pow_right (by omega) (by omega))
omit hk
theorem u_eql : evIntOp .eql k x.toNat y.toNat = some (.bool (decide (x = y))) := by
  simp only [evIntOp, Option.some.injEq, Value.bool.injEq]
  by_cases h : x = y
  · simp [h]
  · have : ¬ ((x.toNat : Int) = y.toNat) := fun e => h (BitVec.eq_of_toNat_eq (by omega))
    simp [h, this]
theorem u_neq : evIntOp .neq k x.toNat y.toNat = some (.bool (!decide (x = y))) := by
  simp only [evIntOp, Option.some.injEq, Value.bool.injEq]
  by_cases h : x = y
  · simp [h]
  · have : ¬ ((x.toNat : Int) = y.toNat) := fun e => h (BitVec.eq_of_toNat_eq (by omega))
    simp [h, this, bne]
theorem u_lss : evIntOp .lss k x.toNat y.toNat = some (.bool (decide (x.toNat < y.toNat))) := by simp [evIntOp]
theorem u_leq : evIntOp .leq k x.toNat y.toNat = some (.bool (decide (x.toNat ≤ y.toNat))) := by simp [evIntOp]
theorem u_gtr : evIntOp .gtr k x.toNat y.toNat = some (.bool (decide (y.toNat < x.toNat))) := by simp [evIntOp]
theorem u_geq : evIntOp .geq k x.toNat y.toNat = some (.bool (decide (y.toNat ≤ x.toNat))) := by simp [evIntOp]
end
end Go.Proofs.Ytfehhihllenjiaa
/- The rules by which the evaluator is rewritten: words, whole numbers, truth. -/
set_option linter.all false
namespace Go.Proofs.Ytfehhihllenjiaa

section
variable {P : Program} {t : TypeId} {l : Bool}
theorem bin_int {op : BinOp} {k : IntKind} {a b : Int} (h : (op != .shl && op != .shr) = true) : evBin P op t l (.int k a) (.int k b) = evIntOp op k a b := by
  cases op <;> first | (simp [evBin]; done) | (exact absurd h (by decide))

theorem w8_add (x y : BitVec 8) : evBin P .add t l (w8 x) (w8 y) = some (w8 (x + y)) := (bin_int (by decide)).trans (u_add (k := .u8) rfl x y)
theorem w8_sub (x y : BitVec 8) : evBin P .sub t l (w8 x) (w8 y) = some (w8 (x - y)) := (bin_int (by decide)).trans (u_sub (k := .u8) rfl x y)
theorem w8_mul (x y : BitVec 8) : evBin P .mul t l (w8 x) (w8 y) = some (w8 (x * y)) := (bin_int (by decide)).trans (u_mul (k := .u8) rfl x y)
theorem w8_and (x y : BitVec 8) : evBin P .and t l (w8 x) (w8 y) = some (w8 (x &&& y)) := (bin_int (by decide)).trans (u_and (k := .u8) rfl x y)
theorem w8_or (x y : BitVec 8) : evBin P .or t l (w8 x) (w8 y) = some (w8 (x ||| y)) := (bin_int (by decide)).trans (u_or (k := .u8) rfl x y)
theorem w8_xor (x y : BitVec 8) : evBin P .xor t l (w8 x) (w8 y) = some (w8 (x ^^^ y)) := (bin_int (by decide)).trans (u_xor (k := .u8) rfl x y)
theorem w8_andNot (x y : BitVec 8) : evBin P .andNot t l (w8 x) (w8 y) = some (w8 (x &&& ~~~y)) := (bin_int (by decide)).trans (u_andNot (k := .u8) rfl x y)
theorem w8_quo (x y : BitVec 8) (h : y ≠ 0) : evBin P .quo t l (w8 x) (w8 y) = some (w8 (x / y)) := (bin_int (by decide)).trans (u_quo (k := .u8) rfl x y h)
theorem w8_eql (x y : BitVec 8) : evBin P .eql t l (w8 x) (w8 y) = some (.bool (decide (x = y))) := (bin_int (by decide)).trans (u_eql (k := .u8) x y)
theorem w8_neq (x y : BitVec 8) : evBin P .neq t l (w8 x) (w8 y) = some (.bool (!decide (x = y))) := (bin_int (by decide)).trans (u_neq (k := .u8) x y)
theorem w8_lss (x y : BitVec 8) : evBin P .lss t l (w8 x) (w8 y) = some (.bool (decide (x.toNat < y.toNat))) := (bin_int (by decide)).trans (u_lss (k := .u8) x y)
theorem w8_leq (x y : BitVec 8) : evBin P .leq t l (w8 x) (w8 y) = some (.bool (decide (x.toNat ≤ y.toNat))) := (bin_int (by decide)).trans (u_leq (k := .u8) x y)
theorem w8_gtr (x y : BitVec 8) : evBin P .gtr t l (w8 x) (w8 y) = some (.bool (decide (y.toNat < x.toNat))) := (bin_int (by decide)).trans (u_gtr (k := .u8) x y)
theorem w8_geq (x y : BitVec 8) : evBin P .geq t l (w8 x) (w8 y) = some (.bool (decide (y.toNat ≤ x.toNat))) := (bin_int (by decide)).trans (u_geq (k := .u8) x y)
theorem w8_shl (x : BitVec 8) (n : Nat) : evBin P .shl t l (w8 x) (iv n) = some (w8 (x <<< n)) := u_shl (k := .u8) rfl x n
theorem w8_shl8 (x : BitVec 8) (n : BitVec 8) : evBin P .shl t l (w8 x) (w8 n) = some (w8 (x <<< n.toNat)) := u_shl (k := .u8) rfl x n.toNat
theorem w8_shl32 (x : BitVec 8) (n : BitVec 32) : evBin P .shl t l (w8 x) (w32 n) = some (w8 (x <<< n.toNat)) := u_shl (k := .u8) rfl x n.toNat
theorem w8_shl64 (x : BitVec 8) (n : BitVec 64) : evBin P .shl t l (w8 x) (w64 n) = some (w8 (x <<< n.toNat)) := u_shl (k := .u8) rfl x n.toNat
theorem w8_shr (x : BitVec 8) (n : Nat) : evBin P .shr t l (w8 x) (iv n) = some (w8 (x >>> n)) := u_shr (k := .u8) rfl x n
theorem w8_shr8 (x : BitVec 8) (n : BitVec 8) : evBin P .shr t l (w8 x) (w8 n) = some (w8 (x >>> n.toNat)) := u_shr (k := .u8) rfl x n.toNat
theorem w8_shr32 (x : BitVec 8) (n : BitVec 32) : evBin P .shr t l (w8 x) (w32 n) = some (w8 (x >>> n.toNat)) := u_shr (k := .u8) rfl x n.toNat
theorem w8_shr64 (x : BitVec 8) (n : BitVec 64) : evBin P .shr t l (w8 x) (w64 n) = some (w8 (x >>> n.toNat)) := u_shr (k := .u8) rfl x n.toNat
theorem w32_add (x y : BitVec 32) : evBin P .add t l (w32 x) (w32 y) = some (w32 (x + y)) := (bin_int (by decide)).trans (u_add (k := .u32) rfl x y)
theorem w32_sub (x y : BitVec 32) : evBin P .sub t l (w32 x) (w32 y) = some (w32 (x - y)) := (bin_int (by decide)).trans (u_sub (k := .u32) rfl x y)
theorem w32_mul (x y : BitVec 32) : evBin P .mul t l (w32 x) (w32 y) = some (w32 (x * y)) := (bin_int (by decide)).trans (u_mul (k := .u32) rfl x y)
theorem w32_and (x y : BitVec 32) : evBin P .and t l (w32 x) (w32 y) = some (w32 (x &&& y)) := (bin_int (by decide)).trans (u_and (k := .u32) rfl x y)
theorem w32_or (x y : BitVec 32) : evBin P .or t l (w32 x) (w32 y) = some (w32 (x ||| y)) := (bin_int (by decide)).trans (u_or (k := .u32) rfl x y)
theorem w32_xor (x y : BitVec 32) : evBin P .xor t l (w32 x) (w32 y) = some (w32 (x ^^^ y)) := (bin_int (by decide)).trans (u_xor (k := .u32) rfl x y)
theorem w32_andNot (x y : BitVec 32) : evBin P .andNot t l (w32 x) (w32 y) = some (w32 (x &&& ~~~y)) := (bin_int (by decide)).trans (u_andNot (k := .u32) rfl x y)
theorem w32_eql (x y : BitVec 32) : evBin P .eql t l (w32 x) (w32 y) = some (.bool (decide (x = y))) := (bin_int (by decide)).trans (u_eql (k := .u32) x y)
theorem w32_neq (x y : BitVec 32) : evBin P .neq t l (w32 x) (w32 y) = some (.bool (!decide (x = y))) := (bin_int (by decide)).trans (u_neq (k := .u32) x y)
theorem w32_lss (x y : BitVec 32) : evBin P .lss t l (w32 x) (w32 y) = some (.bool (decide (x.toNat < y.toNat))) := (bin_int (by decide)).trans (u_lss (k := .u32) x y)
theorem w32_leq (x y : BitVec 32) : evBin P .leq t l (w32 x) (w32 y) = some (.bool (decide (x.toNat ≤ y.toNat))) := (bin_int (by decide)).trans (u_leq (k := .u32) x y)
theorem w32_gtr (x y : BitVec 32) : evBin P .gtr t l (w32 x) (w32 y) = some (.bool (decide (y.toNat < x.toNat))) := (bin_int (by decide)).trans (u_gtr (k := .u32) x y)
theorem w32_geq (x y : BitVec 32) : evBin P .geq t l (w32 x) (w32 y) = some (.bool (decide (y.toNat ≤ x.toNat))) := (bin_int (by decide)).trans (u_geq (k := .u32) x y)
theorem w32_shl (x : BitVec 32) (n : Nat) : evBin P .shl t l (w32 x) (iv n) = some (w32 (x <<< n)) := u_shl (k := .u32) rfl x n
theorem w32_shl8 (x : BitVec 32) (n : BitVec 8) : evBin P .shl t l (w32 x) (w8 n) = some (w32 (x <<< n.toNat)) := u_shl (k := .u32) rfl x n.toNat
theorem w32_shl32 (x : BitVec 32) (n : BitVec 32) : evBin P .shl t l (w32 x) (w32 n) = some (w32 (x <<< n.toNat)) := u_shl (k := .u32) rfl x n.toNat
theorem w32_shl64 (x : BitVec 32) (n : BitVec 64) : evBin P .shl t l (w32 x) (w64 n) = some (w32 (x <<< n.toNat)) := u_shl (k := .u32) rfl x n.toNat
theorem w32_shr (x : BitVec 32) (n : Nat) : evBin P .shr t l (w32 x) (iv n) = some (w32 (x >>> n)) := u_shr (k := .u32) rfl x n
theorem w32_shr8 (x : BitVec 32) (n : BitVec 8) : evBin P .shr t l (w32 x) (w8 n) = some (w32 (x >>> n.toNat)) := u_shr (k := .u32) rfl x n.toNat
theorem w32_shr32 (x : BitVec 32) (n : BitVec 32) : evBin P .shr t l (w32 x) (w32 n) = some (w32 (x >>> n.toNat)) := u_shr (k := .u32) rfl x n.toNat
theorem w32_shr64 (x : BitVec 32) (n : BitVec 64) : evBin P .shr t l (w32 x) (w64 n) = some (w32 (x >>> n.toNat)) := u_shr (k := .u32) rfl x n.toNat
theorem w64_add (x y : BitVec 64) : evBin P .add t l (w64 x) (w64 y) = some (w64 (x + y)) := (bin_int (by decide)).trans (u_add (k := .u64) rfl x y)
theorem w64_sub (x y : BitVec 64) : evBin P .sub t l (w64 x) (w64 y) = some (w64 (x - y)) := (bin_int (by decide)).trans (u_sub (k := .u64) rfl x y)
theorem w64_mul (x y : BitVec 64) : evBin P .mul t l (w64 x) (w64 y) = some (w64 (x * y)) := (bin_int (by decide)).trans (u_mul (k := .u64) rfl x y)
theorem w64_and (x y : BitVec 64) : evBin P .and t l (w64 x) (w64 y) = some (w64 (x &&& y)) := (bin_int (by decide)).trans (u_and (k := .u64) rfl x y)
theorem w64_or (x y : BitVec 64) : evBin P .or t l (w64 x) (w64 y) = some (w64 (x ||| y)) := (bin_int (by decide)).trans (u_or (k := .u64) rfl x y)
theorem w64_xor (x y : BitVec 64) : evBin P .xor t l (w64 x) (w64 y) = some (w64 (x ^^^ y)) := (bin_int (by decide)).trans (u_xor (k := .u64) rfl x y)
theorem w64_andNot (x y : BitVec 64) : evBin P .andNot t l (w64 x) (w64 y) = some (w64 (x &&& ~~~y)) := (bin_int (by decide)).trans (u_andNot (k := .u64) rfl x y)
theorem w64_eql (x y : BitVec 64) : evBin P .eql t l (w64 x) (w64 y) = some (.bool (decide (x = y))) := (bin_int (by decide)).trans (u_eql (k := .u64) x y)
theorem w64_neq (x y : BitVec 64) : evBin P .neq t l (w64 x) (w64 y) = some (.bool (!decide (x = y))) := (bin_int (by decide)).trans (u_neq (k := .u64) x y)
theorem w64_lss (x y : BitVec 64) : evBin P .lss t l (w64 x) (w64 y) = some (.bool (decide (x.toNat < y.toNat))) := (bin_int (by decide)).trans (u_lss (k := .u64) x y)
theorem w64_leq (x y : BitVec 64) : evBin P .leq t l (w64 x) (w64 y) = some (.bool (decide (x.toNat ≤ y.toNat))) := (bin_int (by decide)).trans (u_leq (k := .u64) x y)
theorem w64_gtr (x y : BitVec 64) : evBin P .gtr t l (w64 x) (w64 y) = some (.bool (decide (y.toNat < x.toNat))) := (bin_int (by decide)).trans (u_gtr (k := .u64) x y)
theorem w64_geq (x y : BitVec 64) : evBin P .geq t l (w64 x) (w64 y) = some (.bool (decide (y.toNat ≤ x.toNat))) := (bin_int (by decide)).trans (u_geq (k := .u64) x y)
theorem w64_shl (x : BitVec 64) (n : Nat) : evBin P .shl t l (w64 x) (iv n) = some (w64 (x <<< n)) := u_shl (k := .u64) rfl x n
theorem w64_shl8 (x : BitVec 64) (n : BitVec 8) : evBin P .shl t l (w64 x) (w8 n) = some (w64 (x <<< n.toNat)) := u_shl (k := .u64) rfl x n.toNat
theorem w64_shl32 (x : BitVec 64) (n : BitVec 32) : evBin P .shl t l (w64 x) (w32 n) = some (w64 (x <<< n.toNat)) := u_shl (k := .u64) rfl x n.toNat
theorem w64_shl64 (x : BitVec 64) (n : BitVec 64) : evBin P .shl t l (w64 x) (w64 n) = some (w64 (x <<< n.toNat)) := u_shl (k := .u64) rfl x n.toNat
theorem w64_shr (x : BitVec 64) (n : Nat) : evBin P .shr t l (w64 x) (iv n) = some (w64 (x >>> n)) := u_shr (k := .u64) rfl x n
theorem w64_shr8 (x : BitVec 64) (n : BitVec 8) : evBin P .shr t l (w64 x) (w8 n) = some (w64 (x >>> n.toNat)) := u_shr (k := .u64) rfl x n.toNat
theorem w64_shr32 (x : BitVec 64) (n : BitVec 32) : evBin P .shr t l (w64 x) (w32 n) = some (w64 (x >>> n.toNat)) := u_shr (k := .u64) rfl x n.toNat
theorem w64_shr64 (x : BitVec 64) (n : BitVec 64) : evBin P .shr t l (w64 x) (w64 n) = some (w64 (x >>> n.toNat)) := u_shr (k := .u64) rfl x n.toNat
theorem i64_nat (n : Nat) (h : n < 9223372036854775808) : IntKind.i64.wrap (n : Int) = n := by
  have e1 : (2 : Int) ^ IntKind.i64.bits = 18446744073709551616 := by decide
  have e2 : (2 : Int) ^ (IntKind.i64.bits - 1) = 9223372036854775808 := by decide
  unfold IntKind.wrap
  simp only [e1, e2, show IntKind.i64.signed = true from rfl, Bool.true_and, decide_eq_true_eq]
  split <;> omega
theorem iv_add (n m : Nat) (h : n + m < 9223372036854775808) : evBin P .add t l (iv n) (iv m) = some (iv (n + m)) := by
  refine (bin_int (by decide)).trans ?_
  show some (Value.int .i64 (IntKind.i64.wrap ((n : Int) + m))) = _
  rw [show (n : Int) + m = ((n + m : Nat) : Int) by simp, i64_nat _ h]; rfl
theorem iv_sub (n m : Nat) (h : m ≤ n) (hn : n < 9223372036854775808) : evBin P .sub t l (iv n) (iv m) = some (iv (n - m)) := by
  refine (bin_int (by decide)).trans ?_
  show some (Value.int .i64 (IntKind.i64.wrap ((n : Int) - m))) = _
  rw [show (n : Int) - m = ((n - m : Nat) : Int) by omega, i64_nat _ (by omega)]; rfl
theorem iv_mul (n m : Nat) (h : n * m < 9223372036854775808) : evBin P .mul t l (iv n) (iv m) = some (iv (n * m)) := by
  refine (bin_int (by decide)).trans ?_
  show some (Value.int .i64 (IntKind.i64.wrap ((n : Int) * m))) = _
  rw [show (n : Int) * m = ((n * m : Nat) : Int) by simp, i64_nat _ h]; rfl
theorem iv_quo (n m : Nat) (h : 0 < m) (hn : n < 9223372036854775808) : evBin P .quo t l (iv n) (iv m) = some (iv (n / m)) := by
  refine (bin_int (by decide)).trans ?_
  have h0 : ¬ ((m : Int) = 0) := by omega
  simp only [evIntOp, h0, if_false, Option.some.injEq]
  rw [Int.tdiv_eq_ediv_of_nonneg (by omega), show (n : Int) / m = ((n / m : Nat) : Int) by simp, i64_nat _ (Nat.lt_of_le_of_lt (Nat.div_le_self _ _) hn)]; rfl
theorem iv_rem (n m : Nat) (h : 0 < m) : evBin P .rem t l (iv n) (iv m) = some (iv (n % m)) := by
  refine (bin_int (by decide)).trans ?_
  have h0 : ¬ ((m : Int) = 0) := by omega
  simp only [evIntOp, h0, if_false, Option.some.injEq]
  rw [Int.tmod_eq_emod_of_nonneg (by omega), show (n : Int) % m = ((n % m : Nat) : Int) by simp]; rfl
theorem iv_eql (n m : Nat) : evBin P .eql t l (iv n) (iv m) = some (.bool (decide (n = m))) := by
  refine (bin_int (by decide)).trans ?_
  simp only [evIntOp, Option.some.injEq, Value.bool.injEq]
  by_cases h : n = m
  · simp [h]
  · have : ((n : Int) == m) = false := by simp; omega
    simp [h, this]
theorem iv_neq (n m : Nat) : evBin P .neq t l (iv n) (iv m) = some (.bool (!decide (n = m))) := by
  refine (bin_int (by decide)).trans ?_
  simp only [evIntOp, Option.some.injEq, Value.bool.injEq]
  by_cases h : n = m
  · simp [h]
  · have : ((n : Int) == m) = false := by simp; omega
    simp [h, this, bne]
theorem iv_lss (n m : Nat) : evBin P .lss t l (iv n) (iv m) = some (.bool (decide (n < m))) := by
  refine (bin_int (by decide)).trans ?_
  simp [evIntOp]
theorem iv_leq (n m : Nat) : evBin P .leq t l (iv n) (iv m) = some (.bool (decide (n ≤ m))) := by
  refine (bin_int (by decide)).trans ?_
  simp [evIntOp]
theorem iv_gtr (n m : Nat) : evBin P .gtr t l (iv n) (iv m) = some (.bool (decide (m < n))) := by
  refine (bin_int (by decide)).trans ?_
  simp [evIntOp]
theorem iv_geq (n m : Nat) : evBin P .geq t l (iv n) (iv m) = some (.bool (decide (m ≤ n))) := by
  refine (bin_int (by decide)).trans ?_
  simp [evIntOp]
theorem iv_shl (x n : Nat) (h : x * 2 ^ n < 9223372036854775808) (hn : n ≤ 64) : evBin P .shl t l (iv x) (iv n) = some (iv (x * 2 ^ n)) := by
  show evShift .shl .i64 (x : Int) (n : Int) = _
  have h0 : ¬ ((n : Int) < 0) := by omega
  simp only [evShift, h0, if_false, Option.some.injEq, Int.toNat_natCast]
  rw [show min n IntKind.i64.bits = n from Nat.min_eq_left hn, show (x : Int) * 2 ^ n = ((x * 2 ^ n : Nat) : Int) by simp, i64_nat _ h]; rfl
theorem iv_shr (x n : Nat) (hx : x < 9223372036854775808) : evBin P .shr t l (iv x) (iv n) = some (iv (x / 2 ^ n)) := by
  show evShift .shr .i64 (x : Int) (n : Int) = _
  have h0 : ¬ ((n : Int) < 0) := by omega
  simp only [evShift, h0, if_false, Option.some.injEq, Int.toNat_natCast]
  have hb : IntKind.i64.bits = 64 := rfl
  rw [Int.fdiv_eq_ediv_of_nonneg _ (by simp [Int.pow_nonneg]), show (x : Int) / 2 ^ (min n IntKind.i64.bits) = ((x / 2 ^ (min n IntKind.i64.bits) : Nat) : Int) by simp]
  unfold iv
  congr 2
  by_cases hn : n ≤ 64
  · rw [hb, Nat.min_eq_left hn]
  · rw [hb, Nat.min_eq_right (by omega), Nat.div_eq_of_lt (by omega), Nat.div_eq_of_lt]
    exact Nat.lt_of_lt_of_le hx (Nat.le_trans (by decide : 9223372036854775808 ≤ 2 ^ 63) (Nat.pow_le_pow_right (by omega) (by omega)))
end

section
variable {P : Program}
theorem un_not (b : Bool) : evUn .not (.bool b) = some (.bool !b) := rfl
theorem w8_not (x : BitVec 8) : evUn .xor (w8 x) = some (w8 (~~~x)) := by
  refine (u_xor (k := .u8) rfl (BitVec.allOnes 8) x).trans (congrArg (fun y => some (w8 y)) (BitVec.allOnes_xor (x := x)))
theorem w32_not (x : BitVec 32) : evUn .xor (w32 x) = some (w32 (~~~x)) := by
  refine (u_xor (k := .u32) rfl (BitVec.allOnes 32) x).trans (congrArg (fun y => some (w32 y)) (BitVec.allOnes_xor (x := x)))
theorem w64_not (x : BitVec 64) : evUn .xor (w64 x) = some (w64 (~~~x)) := by
  refine (u_xor (k := .u64) rfl (BitVec.allOnes 64) x).trans (congrArg (fun y => some (w64 y)) (BitVec.allOnes_xor (x := x)))

theorem w8_neg (x : BitVec 8) : evUn .neg (w8 x) = some (w8 (-x)) :=
  (u_sub (k := .u8) rfl (0 : BitVec 8) x).trans (congrArg (fun y => some (w8 y)) (by simp : (0 : BitVec 8) - x = -x))
theorem w32_neg (x : BitVec 32) : evUn .neg (w32 x) = some (w32 (-x)) :=
  (u_sub (k := .u32) rfl (0 : BitVec 32) x).trans (congrArg (fun y => some (w32 y)) (by simp : (0 : BitVec 32) - x = -x))
theorem w64_neg (x : BitVec 64) : evUn .neg (w64 x) = some (w64 (-x)) :=
  (u_sub (k := .u64) rfl (0 : BitVec 64) x).trans (congrArg (fun y => some (w64 y)) (by simp : (0 : BitVec 64) - x = -x))

theorem cv_eq {s d : TypeId} {k k' : IntKind} {n : Int} {h : Heap} {sd : TypeDesc} (hs : P.underlying s = some sd) (hd : P.underlying d = some (.int k)) : evConvert P s d (.int k' n) h = some (.int k (k.wrap n), h) := by
  unfold evConvert; rw [hs, hd]
theorem cv8_32 {s d : TypeId} {x : BitVec 8} {h : Heap} {sd : TypeDesc} (hs : P.underlying s = some sd) (hd : P.underlying d = some (.int .u32)) : evConvert P s d (w8 x) h = some (w32 (x.setWidth 32), h) := by
  refine (cv_eq hs hd).trans ?_
  rw [wrapU_nat rfl]; unfold w32; rw [BitVec.toNat_setWidth]; rfl
theorem cv8_64 {s d : TypeId} {x : BitVec 8} {h : Heap} {sd : TypeDesc} (hs : P.underlying s = some sd) (hd : P.underlying d = some (.int .u64)) : evConvert P s d (w8 x) h = some (w64 (x.setWidth 64), h) := by
  refine (cv_eq hs hd).trans ?_
  rw [wrapU_nat rfl]; unfold w64; rw [BitVec.toNat_setWidth]; rfl
theorem cv8_i {s d : TypeId} {x : BitVec 8} {h : Heap} {sd : TypeDesc} (hs : P.underlying s = some sd) (hd : P.underlying d = some (.int .i64)) (hx : x.toNat < 9223372036854775808) : evConvert P s d (w8 x) h = some (iv x.toNat, h) := by
  refine (cv_eq hs hd).trans ?_
  rw [i64_nat _ hx]; rfl
theorem cvi_8 {s d : TypeId} {n : Nat} {h : Heap} {sd : TypeDesc} (hs : P.underlying s = some sd) (hd : P.underlying d = some (.int .u8)) : evConvert P s d (iv n) h = some (w8 (BitVec.ofNat 8 n), h) := by
  refine (cv_eq hs hd).trans ?_
  rw [wrapU_nat rfl]; unfold w8; rw [BitVec.toNat_ofNat]; rfl
theorem cv32_8 {s d : TypeId} {x : BitVec 32} {h : Heap} {sd : TypeDesc} (hs : P.underlying s = some sd) (hd : P.underlying d = some (.int .u8)) : evConvert P s d (w32 x) h = some (w8 (x.setWidth 8), h) := by
  refine (cv_eq hs hd).trans ?_
  rw [wrapU_nat rfl]; unfold w8; rw [BitVec.toNat_setWidth]; rfl
theorem cvi_32 {s d : TypeId} {n : Nat} {h : Heap} {sd : TypeDesc} (hs : P.underlying s = some sd) (hd : P.underlying d = some (.int .u32)) : evConvert P s d (iv n) h = some (w32 (BitVec.ofNat 32 n), h) := by
  refine (cv_eq hs hd).trans ?_
  rw [wrapU_nat rfl]; unfold w32; rw [BitVec.toNat_ofNat]; rfl
theorem cv64_8 {s d : TypeId} {x : BitVec 64} {h : Heap} {sd : TypeDesc} (hs : P.underlying s = some sd) (hd : P.underlying d = some (.int .u8)) : evConvert P s d (w64 x) h = some (w8 (x.setWidth 8), h) := by
  refine (cv_eq hs hd).trans ?_
  rw [wrapU_nat rfl]; unfold w8; rw [BitVec.toNat_setWidth]; rfl
theorem cvi_64 {s d : TypeId} {n : Nat} {h : Heap} {sd : TypeDesc} (hs : P.underlying s = some sd) (hd : P.underlying d = some (.int .u64)) : evConvert P s d (iv n) h = some (w64 (BitVec.ofNat 64 n), h) := by
  refine (cv_eq hs hd).trans ?_
  rw [wrapU_nat rfl]; unfold w64; rw [BitVec.toNat_ofNat]; rfl
end
end Go.Proofs.Ytfehhihllenjiaa
/- Runs, said by what holds behind them. -/
set_option linter.all false
namespace Go.Proofs.Ytfehhihllenjiaa

/-- The evaluator, for the plain configuration. -/
noncomputable def evS (P : Program) (R : Nat) (call : Value → Phi) (around : Option Nat) : Code → Ev
  | .skip => fun e h => some (.normal, e, h)
  | .region _ ops draw => fun e h => if draw = true then drawE (isoOf P) call P ops e h else evOps call P ops ops.toList e h
  | .seq a b => fun e h => match evS P R call around a e h with
    | some (.normal, e1, h1) => evS P R call around b e1 h1
    | r => r
  | .cond c a b => fun e h => match ev e c with
    | .bool true => evS P R call around a e h
    | .bool false => evS P R call around b e h
    | _ => none
  | .block id b => fun e h => match evS P R call around b e h with
    | some (.exit i, e1, h1) => if i = id then some (.normal, e1, h1) else some (.exit i, e1, h1)
    | r => r
  | .loop b => iter (evS P R call around b) R
  | .rangeFunc f params assign body => evRange call around f params assign body
  | .exit id => fun e h => some (.exit id, e, h)
  | .ret => fun e h => some (.ret, e, h)
  | _ => fun _ _ => none
theorem evC_eq_evS {P : Program} {call : Value → Phi} {around : Option Nat} : ∀ c, evC (cfg0 P) call around c = evS P (2 ^ 64) call around c
  | .region _ ops draw => rfl
  | .seq a b => by
    funext e hh
    simp only [evC, evS, evC_eq_evS a, evC_eq_evS b]
    rfl
  | .cond c a b => by
    funext e hh
    simp only [evC, evS, evC_eq_evS a, evC_eq_evS b]
    rfl
  | .block _ b => by
    funext e hh
    simp only [evC, evS, evC_eq_evS b]
    rfl
  | .loop b => by
    simp only [evC, evS, evC_eq_evS b]
    rfl
  | .skip | .rangeFunc .. | .exit _ | .ret => rfl
  | .label .. | .scope _ | .goto .. | .refuse .. => rfl

abbrev Post := X → Env → Heap → Prop
def W (o : Option (X × Env × Heap)) (Q : Post) : Prop := ∃ x e h, o = some (x, e, h) ∧ Q x e h
def seqQ (k : Env → Heap → Prop) (Q : Post) : Post
  | .normal, e, h => k e h
  | .exit i, e, h => Q (.exit i) e h
  | .ret, e, h => Q .ret e h
  | .pan v, e, h => Q (.pan v) e h
def blockQ (id : Nat) (Q : Post) : Post
  | .normal, e, h => Q .normal e h
  | .exit i, e, h => if i = id then Q .normal e h else Q (.exit i) e h
  | .ret, e, h => Q .ret e h
  | .pan v, e, h => Q (.pan v) e h
def normQ (Q : Post) : Post
  | .normal, e, h => Q .normal e h
  | _, _, _ => False
def condV (c : Value) (x y : Option (X × Env × Heap)) : Option (X × Env × Heap) :=
  match c with
  | .bool true => x
  | .bool false => y
  | _ => none
def opK (r : Option (Rs × Heap)) (k : Value → Heap → Option (X × Env × Heap)) (e : Env) : Option (X × Env × Heap) :=
  match r with
  | some (.ok v, h) => k v h
  | some (.pan v, h) => some (.pan v, e, h)
  | none => none
def evO (call : Value → Phi) (P : Program) (e : Env) (h : Heap) (op : Op) : Option (Rs × Heap) := evOp call P e h ⟨none, op, 0, "", #[], none⟩

section
variable {P : Program} {R : Nat} {call : Value → Phi} {ar : Option Nat} {e : Env} {h : Heap} {Q : Post}
theorem W_some {x : X} : W (some (x, e, h)) Q ↔ Q x e h :=
  ⟨fun ⟨_, _, _, h1, h2⟩ => by cases h1; exact h2, fun hq => ⟨_, _, _, rfl, hq⟩⟩
theorem W_seq {a b : Code} : W (evS P R call ar (.seq a b) e h) Q ↔ W (evS P R call ar a e h) (seqQ (fun e h => W (evS P R call ar b e h) Q) Q) := by
  constructor
  · rintro ⟨x, e1, h1, h2, h3⟩
    simp only [evS] at h2
    split at h2
    · rename_i e2 h4 heq
      exact ⟨.normal, e2, h4, heq, x, e1, h1, h2, h3⟩
    · rename_i hn
      refine ⟨x, e1, h1, h2, ?_⟩
      cases x with
      | normal => exact absurd h2 (hn _ _)
      | _ => exact h3
  · rintro ⟨x, e1, h1, h2, h3⟩
    cases x with
    | normal =>
      obtain ⟨x2, e2, h4, h5, h6⟩ := h3
      exact ⟨x2, e2, h4, by simp only [evS, h2, h5], h6⟩
    | _ => exact ⟨_, e1, h1, by simp only [evS, h2], h3⟩
theorem W_block {id : Nat} {b : Code} : W (evS P R call ar (.block id b) e h) Q ↔ W (evS P R call ar b e h) (blockQ id Q) := by
  constructor
  · rintro ⟨x, e1, h1, h2, h3⟩
    simp only [evS] at h2
    split at h2
    · rename_i i e2 h4 heq
      refine ⟨.exit i, e2, h4, heq, ?_⟩
      split at h2
      · rename_i hi
        cases h2
        simp only [blockQ, hi, if_true]; exact h3
      · rename_i hi
        cases h2
        simp only [blockQ, hi, if_false]; exact h3
    · rename_i hn
      refine ⟨x, e1, h1, h2, ?_⟩
      cases x with
      | exit i => exact absurd h2 (hn _ _ _)
      | _ => exact h3
  · rintro ⟨x, e1, h1, h2, h3⟩
    cases x with
    | exit i =>
      by_cases hi : i = id
      · simp only [blockQ, hi, if_true] at h3
        exact ⟨.normal, e1, h1, by simp [evS, h2, hi], h3⟩
      · simp only [blockQ, hi, if_false] at h3
        exact ⟨.exit i, e1, h1, by simp [evS, h2, hi], h3⟩
    | _ => exact ⟨_, e1, h1, by simp only [evS, h2], h3⟩
theorem S_cond {c : Operand} {a b : Code} : evS P R call ar (.cond c a b) e h = condV (ev e c) (evS P R call ar a e h) (evS P R call ar b e h) := by
  rfl
theorem condV_bool (t : Bool) (x y : Option (X × Env × Heap)) : condV (.bool t) x y = if t = true then x else y := by cases t <;> rfl
theorem W_norm {o : Option (X × Env × Heap)} (hw : W o (normQ Q)) : W (normalOnly o) Q := by
  obtain ⟨x, e1, h1, h2, h3⟩ := hw
  cases x with
  | normal => exact ⟨_, _, _, by rw [h2]; rfl, h3⟩
  | _ => exact h3.elim
theorem W_draw {id : Nat} {ops : List Oper} (hd : drawOk (isoOf P) ⟨ops⟩ = true) (hw : W (evOps call P ⟨ops⟩ ops e h) (normQ Q)) : W (evS P R call ar (.region id ⟨ops⟩ true) e h) Q := by
  have e1 : evS P R call ar (.region id ⟨ops⟩ true) e h = normalOnly (evOps call P ⟨ops⟩ ops e h) := by
    show drawE (isoOf P) call P ⟨ops⟩ e h = _
    unfold drawE
    rw [if_pos hd]
  rw [e1]; exact W_norm hw
theorem W_drawF {id : Nat} {ops : List Oper} (F : List Nat) (S : Nat → Prop) (hd : drawOkF (isoOf P) ⟨ops⟩ F = true) (hr : RunOk call P (isoOf P) ⟨ops⟩ F S 0 ops e h) (hw : W (evOps call P ⟨ops⟩ ops e h) (normQ Q)) : W (evS P R call ar (.region id ⟨ops⟩ true) e h) Q := by
  have e1 : evS P R call ar (.region id ⟨ops⟩ true) e h = normalOnly (evOps call P ⟨ops⟩ ops e h) := by
    show drawE (isoOf P) call P ⟨ops⟩ e h = _
    unfold drawE
    by_cases hs : drawOk (isoOf P) ⟨ops⟩ = true
    · rw [if_pos hs]
    · rw [if_neg hs, if_pos ⟨F, S, hd, hr⟩]
  rw [e1]; exact W_norm hw
theorem ops_free {all : Array Oper} {dst : Option Tmp} {op : Op} {ty : TypeId} {pos : String} {af : Array Edge} {l : List Oper} :
    evOps call P all (⟨dst, op, ty, pos, af, none⟩ :: l) e h = opK (evO call P e h op) (fun v h => evOps call P all l (putE e dst v) h) e := by
  have e1 : evOp call P e h ⟨dst, op, ty, pos, af, none⟩ = evO call P e h op := rfl
  simp only [evOps, wantedA, if_true, e1, opK]
  rfl
theorem ops_guard {all : Array Oper} {dst : Option Tmp} {op : Op} {ty : TypeId} {pos : String} {af : Array Edge} {j : Nat} {want : Bool} {l : List Oper} :
    evOps call P all (⟨dst, op, ty, pos, af, some (j, want)⟩ :: l) e h = if (yieldedA all e j == some want) = true then opK (evO call P e h op) (fun v h => evOps call P all l (putE e dst v) h) e else evOps call P all l (putE e dst undef) h := by
  have e1 : evOp call P e h ⟨dst, op, ty, pos, af, some (j, want)⟩ = evO call P e h op := rfl
  simp only [evOps, wantedA, e1, opK]
  rfl
theorem upd_apply {α : Type} (f : Nat → α) (a : Nat) (b : α) (x : Nat) : upd f a b x = if x = a then b else f x := rfl
theorem ev_tmp {t : Nat} : ev e (.tmp t) = e t := rfl
theorem ev_const {v : Value} : ev e (.const v) = v := rfl
theorem ev_func {f : FuncId} : ev e (.func f) = .func (.func f) #[] #[] := rfl
theorem iter_pos {f : Ev} {n : Nat} (hn : 0 < n) : iter f n e h = match f e h with
    | some (.normal, e', h') => iter f (n - 1) e' h'
    | r => r := by
  cases n with
  | zero => omega
  | succ n => rfl
end

section
variable {P : Program} {R : Nat} {call : Value → Phi} {ar : Option Nat} {e : Env} {h : Heap} {Q : Post}
theorem S_loop {b : Code} : evS P R call ar (.loop b) e h = iter (evS P R call ar b) R e h := rfl
theorem W_iter {f : Ev} {n : Nat} (hn : 0 < n) : W (iter f n e h) Q ↔ W (f e h) (seqQ (fun e h => W (iter f (n - 1) e h) Q) Q) := by
  rw [iter_pos hn]
  constructor
  · rintro ⟨x, e1, h1, h2, h3⟩
    split at h2
    · rename_i e2 h4 heq
      exact ⟨.normal, e2, h4, heq, x, e1, h1, h2, h3⟩
    · rename_i hn
      refine ⟨x, e1, h1, h2, ?_⟩
      cases x with
      | normal => exact absurd h2 (hn _ _)
      | _ => exact h3
  · rintro ⟨x, e1, h1, h2, h3⟩
    cases x with
    | normal =>
      obtain ⟨x2, e2, h4, h5, h6⟩ := h3
      exact ⟨x2, e2, h4, by simp only [h2, h5], h6⟩
    | _ => exact ⟨_, e1, h1, by simp only [h2], h3⟩
/-- A loop: what holds ahead of each round. -/
theorem W_loop {b : Code} (I : Nat → Env → Heap → Prop) (n : Nat) (hn : n < R) (h0 : I 0 e h)
    (hs : ∀ k, k < n → ∀ e h, I k e h → W (evS P R call ar b e h) fun x e h => x = .normal ∧ I (k + 1) e h)
    (he : ∀ e h, I n e h → W (evS P R call ar b e h) fun x e h => x ≠ .normal ∧ Q x e h) : W (evS P R call ar (.loop b) e h) Q := by
  rw [S_loop]
  have main : ∀ m k e h, m + k = n → ∀ R', m < R' → I k e h → W (iter (evS P R call ar b) R' e h) Q := by
    intro m
    induction m with
    | zero =>
      intro k e h hk R' hR hI
      rw [W_iter hR]
      obtain ⟨x, e1, h1, h2, h3, h4⟩ := he e h (by have : k = n := by omega
                                                   exact this ▸ hI)
      refine ⟨x, e1, h1, h2, ?_⟩
      cases x with
      | normal => exact absurd rfl h3
      | _ => exact h4
    | succ m ih =>
      intro k e h hk R' hR hI
      rw [W_iter (by omega)]
      obtain ⟨x, e1, h1, h2, rfl, h4⟩ := hs k (by omega) e h hI
      exact ⟨_, e1, h1, h2, ih (k + 1) e1 h1 (by omega) (R' - 1) (by omega) h4⟩
  exact main n 0 e h rfl R hn h0
theorem W.mono {o : Option (X × Env × Heap)} {Q Q' : Post} (hw : W o Q) (hq : ∀ x e h, Q x e h → Q' x e h) : W o Q' := by
  obtain ⟨x, e, h, h1, h2⟩ := hw
  exact ⟨x, e, h, h1, hq _ _ _ h2⟩
end

/-! the order of rewriting: what is reckoned first -/
@[congr] theorem W_congr {o o' : Option (X × Env × Heap)} {Q : Post} (h : o = o') : W o Q = W o' Q := by rw [h]
@[congr] theorem opK_congr {r r' : Option (Rs × Heap)} {k : Value → Heap → Option (X × Env × Heap)} {e : Env} (h : r = r') : opK r k e = opK r' k e := by rw [h]
@[congr] theorem condV_congr {c c' : Value} {x y : Option (X × Env × Heap)} (h : c = c') : condV c x y = condV c' x y := by rw [h]
@[congr] theorem seqQ_congr {k : Env → Heap → Prop} {Q : Post} {x x' : X} {e : Env} {h : Heap} (hx : x = x') : seqQ k Q x e h = seqQ k Q x' e h := by rw [hx]
@[congr] theorem blockQ_congr {id : Nat} {Q : Post} {x x' : X} {e : Env} {h : Heap} (hx : x = x') : blockQ id Q x e h = blockQ id Q x' e h := by rw [hx]
@[congr] theorem normQ_congr {Q : Post} {x x' : X} {e : Env} {h : Heap} (hx : x = x') : normQ Q x e h = normQ Q x' e h := by rw [hx]
@[congr] theorem evOps_congr {call : Value → Phi} {P : Program} {all : Array Oper} {l : List Oper} {e : Env} {h h' : Heap} (hh : h = h') : evOps call P all l e h = evOps call P all l e h' := by rw [hh]
@[congr] theorem evS_congr {call : Value → Phi} {P : Program} {R : Nat} {ar : Option Nat} {c : Code} {e : Env} {h h' : Heap} (hh : h = h') : evS P R call ar c e h = evS P R call ar c e h' := by rw [hh]
theorem envOf0 (a : Value) (l : List Value) : envOf (a :: l) 0 = a := rfl
theorem envOf1 (a b : Value) (l : List Value) : envOf (a :: b :: l) 1 = b := rfl
theorem envOf2 (a b c : Value) (l : List Value) : envOf (a :: b :: c :: l) 2 = c := rfl
theorem envOf3 (a b c d : Value) (l : List Value) : envOf (a :: b :: c :: d :: l) 3 = d := rfl
theorem envOf4 (a b c d e : Value) (l : List Value) : envOf (a :: b :: c :: d :: e :: l) 4 = e := rfl
theorem envOf5 (a b c d e f : Value) (l : List Value) : envOf (a :: b :: c :: d :: e :: f :: l) 5 = f := rfl

/-! operation by operation -/
section
variable {P : Program} {call : Value → Phi} {e : Env} {h : Heap}
def okV (r : Option Value) (h : Heap) : Option (Rs × Heap) := r.map fun v => (.ok v, h)
def okVH (r : Option (Value × Heap)) : Option (Rs × Heap) := r.map fun r => (.ok r.1, r.2)
theorem okV_some {v : Value} : okV (some v) h = some (.ok v, h) := rfl
theorem okVH_some {v : Value} : okVH (some (v, h)) = some (.ok v, h) := rfl
theorem op_move {x : Operand} : evO call P e h (.move x) = some (.ok (ev e x), h) := rfl
theorem op_assign {x : Operand} : evO call P e h (.assign x) = some (.ok (ev e x), h) := rfl
def pickV (c x y : Value) : Option Value :=
  match c with
  | .bool t => some (if t then x else y)
  | _ => none
theorem pickV_true {x y : Value} : pickV (.bool true) x y = some x := rfl
theorem pickV_false {x y : Value} : pickV (.bool false) x y = some y := rfl
theorem pickV_bool {t u v : Bool} : pickV (.bool t) (.bool u) (.bool v) = some (.bool (if t then u else v)) := by cases t <;> rfl
theorem op_pick {c x y : Operand} : evO call P e h (.pick c x y) = okV (pickV (ev e c) (ev e x) (ev e y)) h := by
  simp only [evO, evOp, evPlain, pickV, okV]
  cases ev e c <;> rfl
theorem op_alloc {t : TypeId} : evO call P e h (.alloc t) = okVH (evAlloc P t h) := rfl
theorem op_box {t : TypeId} {x : Operand} : evO call P e h (.box t x) = okVH (evBox (ev e x) h) := rfl
theorem op_build {t : TypeId} {parts : Array (Nat × Operand)} : evO call P e h (.build t parts) = okV (evBuild P t (parts.toList.map fun p => (p.1, ev e p.2))) h := by
  simp only [evO, evOp, evPlain, okV, Option.map_map]; rfl
theorem op_buildSlice {t : TypeId} {n : Nat} {parts : Array (Nat × Operand)} : evO call P e h (.buildSlice t n parts) = okVH (evBuildSlice P t n (parts.toList.map fun p => (p.1, ev e p.2)) h) := rfl
theorem op_load {t : TypeId} {x : Operand} : evO call P e h (.load t x) = okV (evLoad P t (ev e x) h) h := by
  simp only [evO, evOp, evPlain, okV, Option.map_map]; rfl
def okH (r : Option Heap) : Option (Rs × Heap) := r.map fun h => (.ok undef, h)
theorem okH_some : okH (some h) = some (.ok undef, h) := rfl
theorem op_store {t : TypeId} {a x : Operand} : evO call P e h (.store t a x) = okH (evStore P t (ev e a) (ev e x) h) := by
  simp only [evO, evOp, evPlain, okH, Option.map_map]; rfl
theorem op_nilCheck {x : Operand} : evO call P e h (.nilCheck x) = okV (evNil (ev e x)) h := by
  simp only [evO, evOp, evPlain, okV, Option.map_map]; rfl
theorem op_binOp {op : BinOp} {t u : TypeId} {x y : Operand} : evO call P e h (.binOp op t x y u) = okV (evBin P op t (Region.isConst x || Region.isConst y) (ev e x) (ev e y)) h := by
  simp only [evO, evOp, evPlain, okV, Option.map_map]; rfl
theorem op_unOp {op : UnOp} {t : TypeId} {x : Operand} : evO call P e h (.unOp op t x) = okV (evUn op (ev e x)) h := by
  simp only [evO, evOp, evPlain, okV, Option.map_map]; rfl
theorem op_convert {s d : TypeId} {x : Operand} : evO call P e h (.convert s d x) = okVH (evConvert P s d (ev e x) h) := rfl
theorem op_toArr {t : TypeId} {x : Operand} : evO call P e h (.sliceToArrayPointer t x) = okV (evToArr P t (ev e x)) h := by
  simp only [evO, evOp, evPlain, okV, Option.map_map]; rfl
theorem op_makeFunc {f : FuncId} {a c : Array Operand} : evO call P e h (.makeFunc (.func f) a c) = some (.ok (.func (.func f) (a.toList.map (ev e)).toArray (c.toList.map (ev e)).toArray), h) := rfl
theorem op_makeSlice {t : TypeId} {l c : Operand} : evO call P e h (.makeSlice t l c) = okVH (evMakeSlice P t (ev e l) (ev e c) h) := rfl
theorem op_slice {t : TypeId} {x : Operand} {lo hi mx : Option Operand} : evO call P e h (.slice t x lo hi mx) = okV (evSlice P t (ev e x) (lo.map (ev e)) (hi.map (ev e)) (mx.map (ev e)) h) h := by
  simp only [evO, evOp, evPlain, okV, Option.map_map]; rfl
theorem op_fieldAddr {t : TypeId} {x : Operand} {f : Nat} : evO call P e h (.fieldAddr t x f) = okV (evFieldAddr P t (ev e x) f) h := by
  simp only [evO, evOp, evPlain, okV, Option.map_map]; rfl
theorem op_field {t : TypeId} {x : Operand} {f : Nat} : evO call P e h (.field t x f) = okV (evField P t (ev e x) f) h := by
  simp only [evO, evOp, evPlain, okV, Option.map_map]; rfl
theorem op_indexAddr {t : TypeId} {x i : Operand} : evO call P e h (.indexAddr t x i) = okV (evIndexAddr P t (ev e x) (ev e i)) h := by
  simp only [evO, evOp, evPlain, okV, Option.map_map]; rfl
theorem op_index {t : TypeId} {x i : Operand} : evO call P e h (.index t x i) = okV (evIndex P t (ev e x) (ev e i)) h := by
  simp only [evO, evOp, evPlain, okV, Option.map_map]; rfl
theorem op_extract {x : Operand} {k : Nat} : evO call P e h (.extract x k) = okV (evExtract (ev e x) k) h := by
  simp only [evO, evOp, evPlain, okV, Option.map_map]; rfl
theorem op_call {f : Operand} {args : Array Operand} {ts : Array TypeId} : evO call P e h (.call ⟨.value f, args, ts⟩) = call (ev e f) (args.toList.map (ev e)) h := rfl
theorem op_builtin {b : Builtin} {args : Array Operand} {ts : Array TypeId} : evO call P e h (.call ⟨.builtin b, args, ts⟩) = okVH (evBuiltin P b ts.toList (args.toList.map (ev e)) h) := rfl
theorem bi_len {t : TypeId} {x : Value} : evBuiltin P .len [t] [x] h = (evLenB P t x).map fun v => (v, h) := rfl
theorem bi_cap {t : TypeId} {x : Value} : evBuiltin P .cap [t] [x] h = (evCapB P t x h).map fun v => (v, h) := rfl
theorem bi_append {st xt : TypeId} {s x : Value} : evBuiltin P .append [st, xt] [s, x] h = evAppend P st xt s x h := rfl
theorem bi_copy {st xt : TypeId} {s x : Value} : evBuiltin P .copy [st, xt] [s, x] h = evCopy P st s x h := rfl
end

/-! the same, one step at a time -/
section
variable {P : Program} {R : Nat} {call : Value → Phi} {ar : Option Nat} {e : Env} {h h' : Heap} {Q : Post} {all : Array Oper} {l : List Oper} {op : Op} {ty : TypeId} {pos : String} {af : Array Edge} {v : Value}
theorem R_seq {a b : Code} (hw : W (evS P R call ar a e h) (seqQ (fun e h => W (evS P R call ar b e h) Q) Q)) : W (evS P R call ar (.seq a b) e h) Q := W_seq.2 hw
theorem R_block {id : Nat} {b : Code} (hw : W (evS P R call ar b e h) (blockQ id Q)) : W (evS P R call ar (.block id b) e h) Q := W_block.2 hw
theorem R_skip (hq : Q .normal e h) : W (evS P R call ar .skip e h) Q := W_some.2 hq
theorem R_exit {i : Nat} (hq : Q (.exit i) e h) : W (evS P R call ar (.exit i) e h) Q := W_some.2 hq
theorem R_ret (hq : Q .ret e h) : W (evS P R call ar .ret e h) Q := W_some.2 hq
theorem R_region {id : Nat} {ops : List Oper} (hw : W (evOps call P ⟨ops⟩ ops e h) Q) : W (evS P R call ar (.region id ⟨ops⟩ false) e h) Q := hw
theorem R_draw {id : Nat} {ops : List Oper} (hd : drawOk (isoOf P) ⟨ops⟩ = true) (hw : W (evOps call P ⟨ops⟩ ops e h) (normQ Q)) : W (evS P R call ar (.region id ⟨ops⟩ true) e h) Q := W_draw hd hw
def ifQ (t : Bool) (A B : Prop) : Prop := if t = true then A else B
theorem I_true {A B : Prop} (h : A) : ifQ true A B := h
theorem I_false {A B : Prop} (h : B) : ifQ false A B := h
theorem I_dec {p A B : Prop} [Decidable p] (h1 : p → A) (h2 : ¬ p → B) : ifQ (decide p) A B := by
  by_cases hp : p
  · simpa [ifQ, hp] using h1 hp
  · simpa [ifQ, hp] using h2 hp
theorem R_cond {c : Operand} {a b : Code} {t : Bool} (hc : ev e c = .bool t) (hw : ifQ t (W (evS P R call ar a e h) Q) (W (evS P R call ar b e h) Q)) : W (evS P R call ar (.cond c a b) e h) Q := by
  rw [S_cond, hc, condV_bool]
  cases t <;> exact hw
theorem R_iter {b : Code} {n : Nat} (hn : 0 < n) (hw : W (evS P R call ar b e h) (seqQ (fun e h => W (iter (evS P R call ar b) (n - 1) e h) Q) Q)) : W (iter (evS P R call ar b) n e h) Q := (W_iter hn).2 hw
/-- A round, with what is kept of the slots and of the heap. -/
theorem R_iterK {b : Code} {n : Nat} (hn : 0 < n) (ts rs : List Nat) (hw : ∀ e' h', ts.map e' = ts.map e → rs.map h'.obj = rs.map h.obj → h'.nx = h.nx → W (evS P R call ar b e' h') (seqQ (fun e h => W (iter (evS P R call ar b) (n - 1) e h) Q) Q)) : W (iter (evS P R call ar b) n e h) Q := (W_iter hn).2 (hw e h rfl rfl rfl)
theorem R_loop {b : Code} (hw : W (iter (evS P R call ar b) R e h) Q) : W (evS P R call ar (.loop b) e h) Q := hw
theorem R_nil (hq : Q .normal e h) : W (evOps call P all [] e h) Q := W_some.2 hq
theorem R_op {d : Nat} (hv : evO call P e h op = some (.ok v, h')) (hw : W (evOps call P all l (upd e d v) h') Q) : W (evOps call P all (⟨some d, op, ty, pos, af, none⟩ :: l) e h) Q := by
  rw [ops_free, hv]; exact hw
theorem R_op0 (hv : evO call P e h op = some (.ok v, h')) (hw : W (evOps call P all l e h') Q) : W (evOps call P all (⟨none, op, ty, pos, af, none⟩ :: l) e h) Q := by
  rw [ops_free, hv]; exact hw
theorem R_grd {d j : Nat} {want t : Bool} (hy : yieldedA all e j = some t) (hw : ifQ (t == want) (W (evOps call P all (⟨some d, op, ty, pos, af, none⟩ :: l) e h) Q) (W (evOps call P all l (upd e d undef) h) Q)) :
    W (evOps call P all (⟨some d, op, ty, pos, af, some (j, want)⟩ :: l) e h) Q := by
  rw [ops_guard, hy]
  rw [ops_free] at hw
  cases ht : (t == want) with
  | true =>
    rw [ht] at hw
    rw [if_pos (by simpa using ht)]; exact hw
  | false =>
    rw [ht] at hw
    rw [if_neg (by simpa using ht)]; exact hw
/-- A call whose end is known in part. -/
theorem R_call {d : Nat} {p : Value → Heap → Prop} (hv : ∃ v h', evO call P e h op = some (.ok v, h') ∧ p v h') (hw : ∀ v h', p v h' → W (evOps call P all l (upd e d v) h') Q) : W (evOps call P all (⟨some d, op, ty, pos, af, none⟩ :: l) e h) Q := by
  obtain ⟨v, h', h1, h2⟩ := hv
  exact R_op h1 (hw v h' h2)
theorem Q_seq {k : Env → Heap → Prop} (hk : k e h) : seqQ k Q .normal e h := hk
theorem Q_seqr {k : Env → Heap → Prop} (hk : Q .ret e h) : seqQ k Q .ret e h := hk
theorem Q_seqx {k : Env → Heap → Prop} {i : Nat} (hk : Q (.exit i) e h) : seqQ k Q (.exit i) e h := hk
theorem Q_norm (hk : Q .normal e h) : normQ Q .normal e h := hk
theorem Q_bl {i : Nat} (hk : Q .normal e h) : blockQ i Q .normal e h := hk
theorem Q_blr {i : Nat} (hk : Q .ret e h) : blockQ i Q .ret e h := hk
theorem Q_blx {i : Nat} (hk : Q .normal e h) : blockQ i Q (.exit i) e h := by simpa [blockQ] using hk
theorem Q_blo {i j : Nat} (hn : (j == i) = false) (hk : Q (.exit j) e h) : blockQ i Q (.exit j) e h := by
  have : ¬ j = i := by simpa using hn
  simpa [blockQ, this] using hk
end

/-! a run with its checks -/
section
variable {P : Program} {R : Nat} {call : Value → Phi} {ar : Option Nat} {e : Env} {h h' : Heap} {Q : Post} {all : Array Oper} {l : List Oper} {op : Op} {ty : TypeId} {pos : String} {af : Array Edge} {v : Value} {F : List Nat} {S : Nat → Prop} {i : Nat}
def WD (call : Value → Phi) (P : Program) (all : Array Oper) (F : List Nat) (S : Nat → Prop) (i : Nat) (l : List Oper) (e : Env) (h : Heap) (Q : Post) : Prop :=
  RunOk call P (isoOf P) all F S i l e h ∧ W (evOps call P all l e h) Q
theorem D_draw {id : Nat} {ops : List Oper} (F : List Nat) (S : Nat → Prop) (hd : drawOkF (isoOf P) ⟨ops⟩ F = true) (hw : WD call P ⟨ops⟩ F S 0 ops e h (normQ Q)) : W (evS P R call ar (.region id ⟨ops⟩ true) e h) Q := W_drawF F S hd hw.1 hw.2
theorem D_nil (hq : Q .normal e h) : WD call P all F S i [] e h Q := ⟨trivial, R_nil hq⟩
theorem evO_at {dst : Option Tmp} {g : Option (Nat × Bool)} : evOp call P e h ⟨dst, op, ty, pos, af, g⟩ = evO call P e h op := rfl
theorem D_op {d : Nat} (hv : evO call P e h op = some (.ok v, h')) (hc : F.contains i = true → chk (isoOf P) S e h h' op) (hw : WD call P all F S (i + 1) l (upd e d v) h' Q) : WD call P all F S i (⟨some d, op, ty, pos, af, none⟩ :: l) e h Q := by
  refine ⟨?_, R_op hv hw.2⟩
  simp only [RunOk, wantedA, if_true, evO_at, hv]
  exact ⟨hc, hw.1⟩
theorem D_op0 (hv : evO call P e h op = some (.ok v, h')) (hc : F.contains i = true → chk (isoOf P) S e h h' op) (hw : WD call P all F S (i + 1) l e h' Q) : WD call P all F S i (⟨none, op, ty, pos, af, none⟩ :: l) e h Q := by
  refine ⟨?_, R_op0 hv hw.2⟩
  simp only [RunOk, wantedA, if_true, evO_at, hv]
  exact ⟨hc, hw.1⟩
theorem D_call {d : Nat} {p : Value → Heap → Prop} (hv : ∃ v h', evO call P e h op = some (.ok v, h') ∧ p v h') (hc : ∀ v h', p v h' → F.contains i = true → chk (isoOf P) S e h h' op) (hw : ∀ v h', p v h' → WD call P all F S (i + 1) l (upd e d v) h' Q) :
    WD call P all F S i (⟨some d, op, ty, pos, af, none⟩ :: l) e h Q := by
  obtain ⟨v, h', h1, h2⟩ := hv
  exact D_op h1 (hc v h' h2) (hw v h' h2)
theorem D_grd {d j : Nat} {want t : Bool} (hy : yieldedA all e j = some t) (hw : ifQ (t == want) (WD call P all F S i (⟨some d, op, ty, pos, af, none⟩ :: l) e h Q) (WD call P all F S (i + 1) l (upd e d undef) h Q)) :
    WD call P all F S i (⟨some d, op, ty, pos, af, some (j, want)⟩ :: l) e h Q := by
  cases ht : (t == want) with
  | true =>
    rw [ht] at hw
    have hw1 : WD call P all F S i (⟨some d, op, ty, pos, af, none⟩ :: l) e h Q := hw
    refine ⟨?_, R_grd hy (by rw [ht]; exact hw1.2)⟩
    have h1 := hw1.1
    simp only [RunOk, wantedA, if_true, evO_at] at h1
    simp only [RunOk, wantedA, hy, evO_at]
    rw [if_pos (by simpa using ht)]
    exact h1
  | false =>
    rw [ht] at hw
    have hw1 : WD call P all F S (i + 1) l (upd e d undef) h Q := hw
    refine ⟨?_, R_grd hy (by rw [ht]; exact hw1.2)⟩
    simp only [RunOk, wantedA, hy]
    rw [if_neg (by simpa using ht)]
    exact hw1.1
theorem chk_load {t : TypeId} {a : Operand} (h1 : ∀ r ∈ rowsOfV (ev e a), S r) : chk (isoOf P) S e h h (.load t a) := ⟨rfl, h1⟩
theorem chk_slice {t : TypeId} {x : Operand} {lo hi mx : Option Operand} (h1 : ∀ r ∈ rowsOfV (ev e x), S r) : chk (isoOf P) S e h h (.slice t x lo hi mx) := ⟨rfl, h1⟩
theorem chk_convert {s d : TypeId} {x : Operand} (h1 : ∀ r ∈ rowsOfV (ev e x), S r) : chk (isoOf P) S e h h (.convert s d x) := ⟨rfl, h1⟩
theorem chk_store {t : TypeId} {a x : Operand} (h1 : ∀ r, S r → r < h.nx → h'.obj r = h.obj r) : chk (isoOf P) S e h h' (.store t a x) := h1
theorem chk_call {f : FuncId} {args : Array Operand} {ts : Array TypeId} (hi : isoOf P f = false) (h1 : ∀ r, S r → r < h.nx → h'.obj r = h.obj r) : chk (isoOf P) S e h h' (.call ⟨.value (.func f), args, ts⟩) := by
  simp only [chk, clsOf, hi]
  exact h1
end

/-! calls and whole functions -/
section
variable {P : Program} {d : Nat} {h : Heap}
def evEnd (P : Program) (rs : List ResultVar) (o : Option (X × Env × Heap)) : Option (Rs × Heap) :=
  match o with
  | some (.normal, e', h') => (evResultList P e' h' rs).map fun l => (.ok (packR l), h')
  | some (.ret, e', h') => (evResultList P e' h' rs).map fun l => (.ok (packR l), h')
  | some (.pan v, _, h') => some (.pan v, h')
  | _ => none
noncomputable def fcall (P : Program) (d : Nat) : Value → Phi := evCall (cfg0 P) (evD (cfg0 P) d)
/-- A function's text, looked at. -/
theorem evF_eq {f : FuncId} {fn : Func} {c : Code} {args : List Value} (hfn : P.funcs[f]? = some fn) (hc : fn.body = some c) :
    evF (cfg0 P) (d + 1) f args h = evEnd P fn.results.toList (evS P (2 ^ 64) (fcall P d) none c (envOf args) h) := by
  have e1 : evD (cfg0 P) (d + 1) none c = evS P (2 ^ 64) (fcall P d) none c := evC_eq_evS c
  show (match P.funcs[f]? with | some fn => evBody P (evD (cfg0 P) (d + 1)) fn args h | none => none) = _
  rw [hfn]
  simp only [evBody, hc, e1]
  rfl
theorem fcall_iso {f : FuncId} {args : List Value} (hi : inlOf P f = true) (hs : isoOf P f = true) : fcall P d (.func (.func f) #[] #[]) args h = isoPhi (evF (cfg0 P) d f) args h := by
  obtain ⟨fn, hfn, _⟩ := inlOf_spec hi
  have e : evF (cfg0 P) d f = evBody P (evD (cfg0 P) d) fn := by funext args h; unfold evF; rw [show (cfg0 P).P.funcs[f]? = some fn from hfn]; rfl
  rw [e]
  simp only [fcall, evCall]
  simp only [cfg0, hi, hfn, hs, if_true]
  simp
theorem fcall_inl {f : FuncId} {args : List Value} (hi : inlOf P f = true) (hs : isoOf P f = false) : fcall P d (.func (.func f) #[] #[]) args h = evF (cfg0 P) d f args h := by
  obtain ⟨fn, hfn, _⟩ := inlOf_spec hi
  have e : evF (cfg0 P) d f = evBody P (evD (cfg0 P) d) fn := by funext args h; unfold evF; rw [show (cfg0 P).P.funcs[f]? = some fn from hfn]; rfl
  rw [e]
  simp only [fcall, evCall]
  simp only [cfg0, hi, hfn, hs, if_true]
  simp
theorem fcall_ext {f : FuncId} {args : List Value} {g : List Value → Option Value} {v : Value} (hi : inlOf P f = false) (hx : extOf P f = some g) (hv : g args = some v) : fcall P d (.func (.func f) #[] #[]) args h = some (.ok v, h) := by
  simp only [fcall, evCall]
  simp only [cfg0, hi, hx]
  simp [hv]
/-- A function that is run apart: what it comes to in an empty heap. -/
theorem isoPhi_eq {φ : Phi} {args : List Value} {v : Value} {h1 : Heap} (hc : args.all (closedV 8) = true) (hv : closedV 8 v = true) (he : φ args ⟨fun _ => none, 0⟩ = some (.ok v, h1)) : isoPhi φ args h = some (.ok v, h) := by
  unfold isoPhi
  rw [if_pos hc, he]
  exact if_pos hv
theorem evEnd_of_W {rs : List ResultVar} {o : Option (X × Env × Heap)} {p : Value → Heap → Prop}
    (hw : W o fun x e' h' => (x = .normal ∨ x = .ret) ∧ ∃ l, evResultList P e' h' rs = some l ∧ p (packR l) h') : ∃ v h', evEnd P rs o = some (.ok v, h') ∧ p v h' := by
  obtain ⟨x, e', h', rfl, hx, l, hl, hp⟩ := hw
  refine ⟨packR l, h', ?_, hp⟩
  rcases hx with rfl | rfl <;> simp [evEnd, hl]
end
attribute [irreducible] evS evO seqQ blockQ normQ condV W fcall ifQ WD
end Go.Proofs.Ytfehhihllenjiaa
