/- Regions that draw: the run in a drawn order against the run in the text's order. -/
import Derived.Test.YtfehhihllenjiaaQ
set_option linter.all false
namespace Go.Proofs.Ytfehhihllenjiaa

def dstOf (ops : Array Oper) (j : Nat) : Option Tmp := (ops[j]?).bind (·.dst)
def firstN (n : Nat) (p : Nat → Bool) : Option Nat := (List.range n).find? p
theorem firstN_some {n : Nat} {p : Nat → Bool} {i : Nat} (h : firstN n p = some i) : i < n ∧ p i = true ∧ ∀ j, j < i → p j = false := by
  unfold firstN at h
  have h1 := List.find?_some h
  have h2 := List.mem_of_find?_eq_some h
  refine ⟨by simpa using h2, h1, fun j hj => ?_⟩
  obtain ⟨_, as, bs, hl, has⟩ := List.find?_eq_some_iff_append.1 h
  have hj2 : j ∈ as := by
    have hlen : as.length = i := by
      have h3 : (List.range n)[as.length]? = some i := by rw [hl]; simp
      have h4 : as.length < n := by have := congrArg List.length hl; simp at this; omega
      simpa [h4] using h3
    have h5 : as[j]? = some j := by
      have h6 : (List.range n)[j]? = some j := by have := List.mem_range.1 h2; exact List.getElem?_range (by omega)
      rw [hl, List.getElem?_append_left (by omega)] at h6
      exact h6
    exact List.mem_of_getElem? h5
  simpa using has j hj2
theorem firstN_none {n : Nat} {p : Nat → Bool} (h : firstN n p = none) : ∀ j, j < n → p j = false := by
  intro j hj
  have := List.find?_eq_none.1 h j (by simpa using hj)
  simpa using this

section
variable {call : Value → Phi} {P : Program} {ops : Array Oper} {e e' : Env} {h h' : Heap} (T : Tr call P ops e h e' h') (calm : FuncId → Bool)

def Tr.ED (D : Nat → Bool) : Env := fun t => match firstN ops.size (fun j => D j && (dstOf ops j == some t)) with
  | some j => T.V j
  | none => e t
def isEff (ops : Array Oper) (calm : FuncId → Bool) (j : Nat) : Bool := match ops[j]? with
  | some o => clsOf calm o.op == .eff
  | none => false
def kst (ops : Array Oper) (calm : FuncId → Bool) (D : Nat → Bool) : Nat := (firstN ops.size fun j => isEff ops calm j && !D j).getD ops.size
def Tr.birth (b : Nat) : Nat := (firstN (ops.size + 1) fun i => decide (b < (T.H i).nx)).getD ops.size
def Tr.hD (D : Nat → Bool) : Heap := ⟨fun b => (T.H (max (kst ops calm D) (T.birth b))).obj b, (T.H ops.size).nx⟩

theorem kst_le (D : Nat → Bool) : kst ops calm D ≤ ops.size := by
  unfold kst
  cases hf : firstN ops.size (fun j => isEff ops calm j && !D j) with
  | none => simp
  | some i => simp only [Option.getD_some]; exact Nat.le_of_lt (firstN_some hf).1
theorem kst_below (D : Nat → Bool) {j : Nat} (hj : j < kst ops calm D) (he : isEff ops calm j = true) : D j = true := by
  unfold kst at hj
  cases hf : firstN ops.size (fun j => isEff ops calm j && !D j) with
  | none =>
    rw [hf] at hj
    have := firstN_none hf j (by simpa using hj)
    simpa [he] using this
  | some i =>
    rw [hf] at hj
    have := (firstN_some hf).2.2 j (by simpa using hj)
    simpa [he] using this
theorem kst_at (D : Nat → Bool) (hk : kst ops calm D < ops.size) : isEff ops calm (kst ops calm D) = true ∧ D (kst ops calm D) = false := by
  unfold kst at hk ⊢
  cases hf : firstN ops.size (fun j => isEff ops calm j && !D j) with
  | none => rw [hf] at hk; simp at hk
  | some i =>
    have := (firstN_some hf).2.1
    simp only [Bool.and_eq_true, Bool.not_eq_true'] at this
    simpa using this
theorem kst_unique (D : Nat → Bool) {i : Nat} (hi : i < ops.size) (he : isEff ops calm i = true) (hD : D i = false) (hall : ∀ j, j < i → isEff ops calm j = true → D j = true) : kst ops calm D = i := by
  have h1 : kst ops calm D ≤ i := Nat.le_of_not_lt fun hlt => by have := kst_below calm D hlt he; rw [hD] at this; cases this
  rcases Nat.lt_or_eq_of_le h1 with h2 | h2
  · have := kst_at (ops := ops) calm D (by omega)
    rw [hall _ h2 this.1] at this
    simp at this
  · exact h2
theorem kst_ge (D : Nat → Bool) {i : Nat} (hi : i ≤ ops.size) (hall : ∀ j, j < i → isEff ops calm j = true → D j = true) : i ≤ kst ops calm D := Nat.le_of_not_lt fun hlt => by
  have := kst_at (ops := ops) calm D (by omega)
  rw [hall _ hlt this.1] at this
  simp at this

variable (hmono : ∀ i, i < ops.size → (T.H i).nx ≤ (T.H (i + 1)).nx)
include hmono
theorem Tr.nx_le {i j : Nat} (hij : i ≤ j) (hj : j ≤ ops.size) : (T.H i).nx ≤ (T.H j).nx := by
  induction hij with
  | refl => exact Nat.le_refl _
  | step hs ih => exact Nat.le_trans (ih (by omega)) (hmono _ (by omega))
theorem Tr.birth_le {b i : Nat} (hi : i ≤ ops.size) (hb : b < (T.H i).nx) : T.birth b ≤ i := by
  unfold Tr.birth
  cases hf : firstN (ops.size + 1) (fun i => decide (b < (T.H i).nx)) with
  | none => have := firstN_none hf i (by omega); simp at this; omega
  | some k =>
    simp only [Option.getD_some]
    refine Nat.le_of_not_lt fun hlt => ?_
    have := (firstN_some hf).2.2 i hlt
    simp at this; omega
theorem Tr.birth_gt {b i : Nat} (hi : i ≤ ops.size) (hb : (T.H i).nx ≤ b) (hbn : b < (T.H ops.size).nx) : i < T.birth b := by
  unfold Tr.birth
  cases hf : firstN (ops.size + 1) (fun i => decide (b < (T.H i).nx)) with
  | none => have := firstN_none hf ops.size (by omega); simp at this; omega
  | some k =>
    simp only [Option.getD_some]
    have hk := firstN_some hf
    refine Nat.lt_of_not_le fun hle => ?_
    have h1 := T.nx_le hmono hle hi
    have h2 := hk.2.1
    simp at h2
    omega

omit hmono in
theorem Tr.birth_spec {b : Nat} (hb : b < (T.H ops.size).nx) : T.birth b ≤ ops.size ∧ b < (T.H (T.birth b)).nx := by
  unfold Tr.birth
  cases hf : firstN (ops.size + 1) (fun i => decide (b < (T.H i).nx)) with
  | none => simpa using hb
  | some k =>
    have := firstN_some hf
    simp only [Option.getD_some]
    exact ⟨by omega, by simpa using this.2.1⟩

variable (hF : ∀ i, i < ops.size → isEff ops calm i = false → ∀ b, b < (T.H i).nx → (T.H (i + 1)).obj b = (T.H i).obj b)
include hF
theorem Tr.same {i j : Nat} (hij : i ≤ j) (hj : j ≤ ops.size) (hno : ∀ m, i ≤ m → m < j → isEff ops calm m = false) {b : Nat} (hb : b < (T.H i).nx) : (T.H j).obj b = (T.H i).obj b := by
  induction hij with
  | refl => rfl
  | @step k hs ih =>
    rw [hF k (by omega) (hno k hs (by omega)) b (Nat.lt_of_lt_of_le hb (T.nx_le hmono hs (by omega)))]
    exact ih (by omega) fun m h1 h2 => hno m h1 (by omega)
/-- Between two places with no effect in between, the drawn run's heap reads so. -/
theorem Tr.hD_at {D : Nat → Bool} {i : Nat} (hi : i ≤ ops.size) (hk : i ≤ kst ops calm D) (hno : ∀ m, i ≤ m → m < kst ops calm D → isEff ops calm m = false) {b : Nat} (hb : b < (T.H i).nx) : (T.hD calm D).obj b = (T.H i).obj b := by
  have hbi := T.birth_le hmono hi hb
  simp only [Tr.hD, Nat.max_eq_left (Nat.le_trans hbi hk)]
  exact T.same calm hmono hF hk (kst_le calm D) hno hb
end

/-- A local step against a heap of which it sees a part. -/
structure Seen (μ : Mu) (h : Heap) (w0 : World) (μD : Mu) (hD : Heap) (w : World) : Prop where
  ext : Ext μ μD
  new : ∀ b m, μD b = some m → μ b = some m ∨ (h.nx ≤ b ∧ (w0.heap.size ≤ m.B ∨ ∃ b0 m0, μ b0 = some m0 ∧ (h.obj b0).isSome = true ∧ m0.k ≠ .ro ∧ m0.B = m.B))
  live : ∀ b, b < h.nx → (hD.obj b).isSome = true → (h.obj b).isSome = true
  rel : Rel μD hD w
  pres : Pres μ h w0 w

theorem Seen.old {μ : Mu} {h : Heap} {w0 : World} {μD : Mu} {hD : Heap} {w : World} (hf : Fresh μ h) (s : Seen μ h w0 μD hD w) {b : Nat} {m : Loc} (hb : μD b = some m) (hl : (hD.obj b).isSome = true) (hk : m.k ≠ .ro) :
    w0.heap.size ≤ m.B ∨ ∃ b0 m0, μ b0 = some m0 ∧ (h.obj b0).isSome = true ∧ m0.k ≠ .ro ∧ m0.B = m.B := by
  rcases s.new b m hb with h1 | ⟨_, h1⟩
  · exact .inr ⟨b, m, h1, s.live b (hf.lt h1) hl, hk, rfl⟩
  · exact h1

theorem seen_step {μ : Mu} {h : Heap} {w0 : World} {μD : Mu} {hD : Heap} {w w' : World} (hf : Fresh μ h) (s : Seen μ h w0 μD hD w) {ni nj : Nat} (hni : h.nx ≤ ni) {g g' : Heap} {μr' : Mu} (hgn : g.nx = ni) (hgn' : g'.nx = nj)
    (hagree : ∀ b x, b < ni → g.obj b = some x → (μD b).isSome = true → hD.obj b = some x) (hnone : ∀ b, ni ≤ b → b < nj → μD b = none)
    (st : Step (fun b => if b < ni then μD b else none) μr' g g' w w') {hD' : Heap} (h1 : ∀ b, b < nj → (μr' b).isSome = true → hD'.obj b = g'.obj b ∨ (b < ni ∧ g.obj b = none ∧ hD'.obj b = hD.obj b)) (h2 : ∀ b, nj ≤ b → (μD b).isSome = true → hD'.obj b = hD.obj b)
    (hlive : ∀ b, b < h.nx → (hD'.obj b).isSome = true → (h.obj b).isSome = true) :
    Seen μ h w0 (fun b => if b < nj then μr' b else μD b) hD' w' ∧ Ext μD (fun b => if b < nj then μr' b else μD b) ∧ Ext μr' (fun b => if b < nj then μr' b else μD b) ∧ (∀ B0 ds, MarksOk B0 μD hD w ds → MarksOk B0 (fun b => if b < nj then μr' b else μD b) hD' w' ds) := by
  have hnx : ni ≤ nj := by have := st.nx; omega
  have hr : ∀ b m, b < ni → μD b = some m → μr' b = some m := fun b m hb hm => st.ext b m (by simp [hb, hm])
  have hxD : Ext μD (fun b => if b < nj then μr' b else μD b) := by
    intro b m hb
    by_cases hbj : b < nj
    · simp only [hbj, if_true]
      by_cases hbi : b < ni
      · exact hr b m hbi hb
      · rw [hnone b (by omega) hbj] at hb; cases hb
    · simp only [hbj, if_false]; exact hb
  have hxr : Ext μr' (fun b => if b < nj then μr' b else μD b) := by
    intro b m hb
    have : b < nj := by rw [← hgn']; exact st.fresh.lt hb
    simp only [this, if_true]; exact hb
  have hgl : ∀ b m, b < ni → μD b = some m → (g.obj b).isSome = true → (hD.obj b).isSome = true := fun b m hb hm hl => by
    obtain ⟨x, hx⟩ := Option.isSome_iff_exists.1 hl
    rw [hagree b x hb hx (by simp [hm])]; rfl
  -- what a new entry of the local step is
  have hnew : ∀ b m, μr' b = some m → (b < ni ∧ μD b = some m) ∨ (ni ≤ b ∧ (w.heap.size ≤ m.B ∨ ∃ b0 m0, b0 < ni ∧ μD b0 = some m0 ∧ (g.obj b0).isSome = true ∧ m0.k ≠ .ro ∧ m0.B = m.B)) := by
    intro b m hb
    rcases st.new b m hb with h3 | ⟨h3, h4⟩
    · by_cases hbi : b < ni
      · exact .inl ⟨hbi, by simpa [hbi] using h3⟩
      · simp [hbi] at h3
    · refine .inr ⟨by omega, ?_⟩
      rcases h4 with h4 | ⟨b0, m0, q1, q2, q3, q4⟩
      · exact .inl h4
      · by_cases hb0 : b0 < ni
        · simp only [hb0, if_true] at q1
          exact .inr ⟨b0, m0, hb0, q1, q2, q3, q4⟩
        · simp [hb0] at q1
  have hlv : ∀ b m, b < ni → μD b = some m → (g'.obj b).isSome = true → (g.obj b).isSome = true := fun b m hb hm hl => st.live b (by omega) hl
  -- an entry is the local step's, or an elder one that it does not see
  have hpres : ∀ b m, (∀ b1, b1 < ni → (g.obj b1).isSome = true → b1 ≠ b) → μD b = some m → (hD.obj b).isSome = true → w'.heap[m.B]? = w.heap[m.B]? := by
    intro b m hb hm hl
    refine st.pres.block m.B (s.rel.lt hm hl) fun b1 m1 q1 q2 q3 => ?_
    by_cases hb1 : b1 < ni
    · simp only [hb1, if_true] at q1
      exact s.rel.inj b1 b m1 m q1 hm (hgl b1 m1 hb1 q1 q2) hl (hb b1 hb1 q2) q3
    · simp [hb1] at q1
  have objn : ∀ b m, (if b < nj then μr' b else μD b) = some m → (b < nj ∧ μr' b = some m ∧ hD'.obj b = g'.obj b) ∨ ((∀ b1, b1 < ni → (g.obj b1).isSome = true → b1 ≠ b) ∧ μD b = some m ∧ hD'.obj b = hD.obj b) := by
    intro b m hb
    by_cases hbj : b < nj
    · simp only [hbj, if_true] at hb
      rcases h1 b hbj (by simp [hb]) with h3 | ⟨h3, h4, h5⟩
      · exact .inl ⟨hbj, hb, h3⟩
      · refine .inr ⟨fun b1 q1 q2 q3 => ?_, ?_, h5⟩
        · subst q3; rw [h4] at q2; simp at q2
        · rcases hnew b m hb with ⟨_, r⟩ | ⟨r, _⟩
          · exact r
          · omega
    · simp only [hbj, if_false] at hb
      exact .inr ⟨fun b1 q1 q2 q3 => by omega, hb, h2 b (by omega) (by simp [hb])⟩
  have hrel : Rel (fun b => if b < nj then μr' b else μD b) hD' w' := by
    constructor
    · intro b m o hb ho
      rcases objn b m hb with ⟨q1, q2, q3⟩ | ⟨q1, q2, q3⟩
      · rw [q3] at ho
        exact (st.rel.obj b m o q2 ho).mono hxr
      · rw [q3] at ho
        exact ((s.rel.obj b m o q2 ho).of_heap (hpres b m q1 q2 (by simp [ho]))).mono hxD
    · intro b b' m m' hb hb' hl hl' hne hk
      rcases objn b m hb with ⟨q1, q2, q3⟩ | ⟨q1, q2, q3⟩ <;> rcases objn b' m' hb' with ⟨p1, p2, p3⟩ | ⟨p1, p2, p3⟩
      · rw [q3] at hl; rw [p3] at hl'
        exact st.rel.inj b b' m m' q2 p2 hl hl' hne hk
      · rw [q3] at hl; rw [p3] at hl'
        rcases hnew b m q2 with ⟨r1, r2⟩ | ⟨r1, r2 | ⟨b0, m0, r2, r3, r4, r5, r6⟩⟩
        · exact s.rel.inj b b' m m' r2 p2 (hgl b m r1 r2 (hlv b m r1 r2 hl)) hl' hne hk
        · have := s.rel.lt p2 hl'; omega
        · rw [← r6]
          exact s.rel.inj b0 b' m0 m' r3 p2 (hgl b0 m0 r2 r3 r4) hl' (p1 b0 r2 r4) r5
      · rw [q3] at hl; rw [p3] at hl'
        rcases hnew b' m' p2 with ⟨r1, r2⟩ | ⟨r1, r2 | ⟨b0, m0, r2, r3, r4, r5, r6⟩⟩
        · exact s.rel.inj b b' m m' q2 r2 hl (hgl b' m' r1 r2 (hlv b' m' r1 r2 hl')) hne hk
        · have := s.rel.lt q2 hl; omega
        · rw [← r6]
          exact s.rel.inj b b0 m m0 q2 r3 hl (hgl b0 m0 r2 r3 r4) (Ne.symm (q1 b0 r2 r4)) hk
      · rw [q3] at hl; rw [p3] at hl'
        exact s.rel.inj b b' m m' q2 p2 hl hl' hne hk
  refine ⟨⟨s.ext.trans hxD, ?_, hlive, hrel, ?_⟩, hxD, hxr, ?_⟩
  · intro b m hb
    rcases objn b m hb with ⟨q1, q2, q3⟩ | ⟨q1, q2, q3⟩
    · rcases hnew b m q2 with ⟨r1, r2⟩ | ⟨r1, r2 | ⟨b0, m0, r2, r3, r4, r5, r6⟩⟩
      · exact s.new b m r2
      · exact .inr ⟨by omega, .inl (Nat.le_trans s.pres.size r2)⟩
      · refine .inr ⟨by omega, ?_⟩
        rcases s.old hf r3 (hgl b0 m0 r2 r3 r4) r5 with h5 | ⟨b1, m1, t1, t2, t3, t4⟩
        · exact .inl (by omega)
        · exact .inr ⟨b1, m1, t1, t2, t3, t4.trans r6⟩
    · exact s.new b m q2
  · refine ⟨st.pres.os.trans s.pres.os, st.pres.tape.trans s.pres.tape, st.pres.output.trans s.pres.output, Nat.le_trans s.pres.size st.pres.size, fun B hB hno => ?_⟩
    rw [st.pres.block B (Nat.lt_of_lt_of_le hB s.pres.size) ?_, s.pres.block B hB hno]
    intro b m q1 q2 q3 q4
    by_cases hb : b < ni
    · simp only [hb, if_true] at q1
      rcases s.old hf q1 (hgl b m hb q1 q2) q3 with h5 | ⟨b1, m1, t1, t2, t3, t4⟩
      · omega
      · exact hno b1 m1 t1 t2 t3 (t4.trans q4)
    · simp [hb] at q1
  · rintro B0 ds ⟨rs, rfl, hn, hrs⟩
    refine ⟨rs, rfl, hn, fun r hrm => ?_⟩
    obtain ⟨t1, t2, t3⟩ := hrs r hrm
    have hlt : r < w.heap.size := (Array.getElem?_eq_some_iff.1 t2).1
    refine ⟨t1, ?_, fun b m hb hl => ?_⟩
    · rw [st.pres.block r hlt fun b m q1 q2 _ => ?_]
      · exact t2
      · by_cases hb : b < ni
        · simp only [hb, if_true] at q1
          exact t3 b m q1 (hgl b m hb q1 q2)
        · simp [hb] at q1
    · rcases objn b m hb with ⟨q1, q2, q3⟩ | ⟨q1, q2, q3⟩
      · rw [q3] at hl
        rcases hnew b m q2 with ⟨r1, r2⟩ | ⟨r1, r2 | ⟨b0, m0, r2, r3, r4, r5, r6⟩⟩
        · exact t3 b m r2 (hgl b m r1 r2 (hlv b m r1 r2 hl))
        · omega
        · rw [← r6]; exact t3 b0 m0 r3 (hgl b0 m0 r2 r3 r4)
      · rw [q3] at hl; exact t3 b m q2 hl
end Go.Proofs.Ytfehhihllenjiaa
