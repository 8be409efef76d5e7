/- Regions that draw: sound. -/
import Derived.Test.YtfehhihllenjiaaR
set_option linter.all false
namespace Go.Proofs.Ytfehhihllenjiaa

theorem ready_spec {ops : Array Oper} {listed : Array Bool} {i : Nat} (h : i ∈ Region.ready .any ops listed) (hsz : listed.size = ops.size) :
    i < ops.size ∧ listed.getD i false = false ∧ ∀ o, ops[i]? = some o → ∀ ed ∈ o.after.toList, Region.binds .any ed = true → listed.getD ed.on false = true := by
  unfold Region.ready at h
  obtain ⟨h1, h2⟩ := List.mem_filter.1 h
  have hi : i < ops.size := List.mem_range.1 h1
  simp only [Bool.and_eq_true, Bool.not_eq_true'] at h2
  refine ⟨hi, ?_, fun o ho ed hed hb => ?_⟩
  · have := h2.1
    have hi2 : i < listed.size := by omega
    simp only [Array.getD_eq_getD_getElem?, Array.getElem?_eq_getElem hi2, Option.getD_some] at this ⊢
    exact this
  · have h3 := h2.2
    rw [ho] at h3
    simp only [Option.map_some, Option.getD_some] at h3
    have h4 := Array.all_eq_true'.1 h3 ed (by simpa using hed)
    simpa [hb] using h4
theorem ready_empty {ops : Array Oper} (hed : ∀ (j : Nat) (o : Oper), ops[j]? = some o → ∀ ed ∈ o.after.toList, Region.binds .any ed = true → ed.on < j) {listed : Array Bool} (hsz : listed.size = ops.size)
    (h : Region.ready .any ops listed = []) : ∀ i, i < ops.size → listed.getD i false = true := by
  intro i
  induction i using Nat.strongRecOn with
  | _ i ih =>
    intro hi
    cases hl : listed.getD i false with
    | true => rfl
    | false =>
      exfalso
      have : i ∈ Region.ready .any ops listed := by
        unfold Region.ready
        refine List.mem_filter.2 ⟨List.mem_range.2 hi, ?_⟩
        have hi2 : i < listed.size := by omega
        have e1 : listed.getD i true = false := by
          simp only [Array.getD_eq_getD_getElem?, Array.getElem?_eq_getElem hi2, Option.getD_some] at hl ⊢
          exact hl
        have ho : ops[i]? = some ops[i] := by simp [hi]
        rw [ho, e1]
        simp only [Bool.not_false, Bool.true_and, Option.map_some, Option.getD_some]
        refine Array.all_eq_true'.2 fun ed hm => ?_
        by_cases hb : Region.binds .any ed = true
        · have hlt := hed i _ ho ed (by simpa using hm) hb
          simp [hb, ih ed.on hlt (by omega)]
        · simp [hb]
      rw [h] at this
      simp at this

theorem firstN_congr {n : Nat} {p q : Nat → Bool} (h : ∀ j, j < n → p j = q j) : firstN n p = firstN n q := by
  cases hp : firstN n p with
  | none =>
    have h1 := firstN_none hp
    cases hq : firstN n q with
    | none => rfl
    | some k =>
      have h2 := firstN_some hq
      have := h1 k h2.1
      rw [h k h2.1, h2.2.1] at this
      cases this
  | some i =>
    have h1 := firstN_some hp
    cases hq : firstN n q with
    | none =>
      have := firstN_none hq i h1.1
      rw [← h i h1.1, h1.2.1] at this
      cases this
    | some k =>
      have h2 := firstN_some hq
      rcases Nat.lt_trichotomy i k with h3 | h3 | h3
      · have := h2.2.2 i h3
        rw [← h i h1.1, h1.2.1] at this; cases this
      · rw [h3]
      · have := h1.2.2 k h3
        rw [h k h2.1, h2.2.1] at this; cases this
theorem set_getD (listed : Array Bool) (i j : Nat) (hi : i < listed.size) : (listed.setIfInBounds i true).getD j false = (listed.getD j false || decide (j = i)) := by
  by_cases h : j = i
  · subst h; simp [hi]
  · simp [Array.getElem?_setIfInBounds_ne (Ne.symm h), h]
theorem count_set (listed : Array Bool) (i : Nat) (hi : i < listed.size) (hf : listed.getD i false = false) : (listed.setIfInBounds i true).toList.count true = listed.toList.count true + 1 := by
  have hl : listed[i] = false := by
    simp only [Array.getD_eq_getD_getElem?, Array.getElem?_eq_getElem hi, Option.getD_some] at hf; exact hf
  rw [Array.toList_setIfInBounds, List.count_set (by simpa using hi)]
  simp [hl]

section
variable {call : Value → Phi} {P : Program} {ops : Array Oper} {e e' : Env} {h h' : Heap} (T : Tr call P ops e h e' h')
theorem ED_some (hdist : ∀ i j, i < j → j < ops.size → ∀ t, dstOf ops i = some t → dstOf ops j ≠ some t) {D : Nat → Bool} {j : Nat} {t : Tmp} (hj : j < ops.size) (hD : D j = true) (hd : dstOf ops j = some t) : T.ED D t = T.V j := by
  unfold Tr.ED
  cases hf : firstN ops.size (fun j => D j && (dstOf ops j == some t)) with
  | none => have := firstN_none hf j hj; simp [hD, hd] at this
  | some k =>
    obtain ⟨h1, h2, h3⟩ := firstN_some hf
    simp only [Bool.and_eq_true, beq_iff_eq] at h2
    rcases Nat.lt_trichotomy k j with hlt | rfl | hgt
    · exact absurd hd (hdist k j hlt hj t h2.2)
    · rfl
    · exact absurd h2.2 (hdist j k hgt h1 t hd)
theorem ED_none {D : Nat → Bool} {t : Tmp} (hn : ∀ j, j < ops.size → D j = true → dstOf ops j ≠ some t) : T.ED D t = e t := by
  unfold Tr.ED
  cases hf : firstN ops.size (fun j => D j && (dstOf ops j == some t)) with
  | none => rfl
  | some k =>
    obtain ⟨h1, h2, h3⟩ := firstN_some hf
    simp only [Bool.and_eq_true, beq_iff_eq] at h2
    exact absurd h2.2 (hn k h1 h2.1)
theorem ED_put (hdist : ∀ i j, i < j → j < ops.size → ∀ t, dstOf ops i = some t → dstOf ops j ≠ some t) {D D' : Nat → Bool} {i : Nat} (hi : i < ops.size) (hD : ∀ j, j < ops.size → D' j = (D j || decide (j = i))) : T.ED D' = putE (T.ED D) (dstOf ops i) (T.V i) := by
  funext t
  by_cases hit : dstOf ops i = some t
  · rw [ED_some T hdist hi (by rw [hD i hi]; simp) hit, hit]
    simp [putE]
  · have e1 : putE (T.ED D) (dstOf ops i) (T.V i) t = T.ED D t := by
      cases hd : dstOf ops i with
      | none => rfl
      | some d => exact upd_other _ _ (fun e => hit (by rw [hd, e]))
    rw [e1]
    by_cases hex : ∃ j, j < ops.size ∧ D j = true ∧ dstOf ops j = some t
    · obtain ⟨j, h1, h2, h3⟩ := hex
      rw [ED_some T hdist h1 h2 h3, ED_some T hdist h1 (by rw [hD j h1, h2]; rfl) h3]
    · rw [ED_none T (fun j h1 h2 h3 => hex ⟨j, h1, h2, h3⟩), ED_none T (fun j h1 h2 h3 => by
        rw [hD j h1] at h2
        simp only [Bool.or_eq_true, decide_eq_true_eq] at h2
        rcases h2 with h2 | rfl
        · exact hex ⟨j, h1, h2, h3⟩
        · exact hit h3)]
theorem E_eq_ED (hdist : ∀ i j, i < j → j < ops.size → ∀ t, dstOf ops i = some t → dstOf ops j ≠ some t) : ∀ i, i ≤ ops.size → T.E i = T.ED (fun j => decide (j < i))
  | 0, _ => by
    rw [T.e0]
    funext t
    rw [ED_none T (fun j _ h2 => by simp at h2)]
  | i + 1, hi => by
    have ho : ops[i]? = some ops[i] := by simp [show i < ops.size by omega]
    rw [(T.st i _ ho).1, E_eq_ED hdist i (by omega)]
    have hd : dstOf ops i = ops[i].dst := by simp [dstOf, ho]
    rw [← hd]
    exact (ED_put T hdist (by omega) fun j hj => by
      by_cases h1 : j < i
      · simp [h1]; omega
      · by_cases h2 : j = i
        · simp [h2]
        · simp [h1, h2]; omega).symm
end


theorem VRL.restrict {μ μg μ' : Mu} (hd : ∀ b, (μg b).isSome = true → ∀ m, μ' b = some m → μ b = some m) : ∀ {l x : List Value}, VRL μg l x → ∀ {y : List Value}, VRL μ' l y → VRL μ l y
  | _, _, .nil, _, .nil => .nil
  | _, _, .cons h t, _, .cons h' t' => .cons (h.restrict hd h') (VRL.restrict hd t t')
theorem ObjRel.restrict {μ μg μ' : Mu} (hd : ∀ b, (μg b).isSome = true → ∀ m, μ' b = some m → μ b = some m) {o : AObj} {mg m : Loc} {wg w : World} (hg : ObjRel μg mg wg o) (h : ObjRel μ' m w o) : ObjRel μ m w o := by
  cases o with
  | row k es cs =>
    obtain ⟨_, _, _, _, _, _, _, _, _, hl, _⟩ := hg
    obtain ⟨h1, h2, h3, h4, arr, el, fr, h5, h6, h7, h8⟩ := h
    exact ⟨h1, h2, h3, h4, arr, el, fr, h5, h6, VRL.restrict hd hl h7, h8⟩
  | loop L =>
    obtain ⟨_, _, _, _, _, hl, _⟩ := hg
    obtain ⟨h1, r, h2, h3, h4, h5, h6⟩ := h
    exact ⟨h1, r, h2, h3, h4, fun t => (hl t).restrict hd (h5 t), h6⟩

/-- What the checks of a run say of its steps. -/
theorem Tr.checked {call : Value → Phi} {P : Program} {ops : Array Oper} {e e' : Env} {h h' : Heap} (T : Tr call P ops e h e' h') {calm : FuncId → Bool} {F : List Nat} {S : Nat → Prop} : ∀ (l : List Oper) (k : Nat), (∀ j, l[j]? = ops[k + j]?) → RunOk call P calm ops F S k l (T.E k) (T.H k) →
    ∀ i o, k ≤ i → ops[i]? = some o → F.contains i = true → wantedA ops (T.E i) o = true → chk calm S (T.E i) (T.H i) (T.H (i + 1)) o.op
  | [], k, hl, _, i, o, hi, ho, _, _ => by
    have := hl (i - k)
    rw [show k + (i - k) = i by omega, ho] at this
    simp at this
  | x :: l, k, hl, hr, i, o, hi, ho, hF, hw => by
    have hk : ops[k]? = some x := by have := hl 0; simpa using this.symm
    have hl' : ∀ j, l[j]? = ops[k + 1 + j]? := fun j => by have := hl (j + 1); simpa [Nat.add_assoc, Nat.add_comm 1 j] using this
    obtain ⟨hE, hst⟩ := T.st k x hk
    simp only [RunOk] at hr
    rcases hst with ⟨hwk, hop⟩ | ⟨hwk, hv, hh⟩
    · rw [if_pos hwk, hop] at hr
      by_cases hik : i = k
      · subst hik
        rw [hk] at ho; cases ho
        exact hr.1 hF
      · exact T.checked l (k + 1) hl' (by rw [hE]; exact hr.2) i o (by omega) ho hF hw
    · rw [if_neg (by simp [hwk])] at hr
      by_cases hik : i = k
      · subst hik
        rw [hk] at ho; cases ho
        rw [hwk] at hw; cases hw
      · exact T.checked l (k + 1) hl' (by rw [hE, hv, hh]; exact hr) i o (by omega) ho hF hw

/-- What the drawn run sees of a ready operation. -/
theorem Tr.pick {call : Value → Phi} {P : Program} {ops : Array Oper} {e e' : Env} {h h' : Heap} (T : Tr call P ops e h e' h') (calm : FuncId → Bool) (F : List Nat) (S : Nat → Prop)
    (hcalm : CalmOk call calm)
    (hmono : ∀ i, i < ops.size → (T.H i).nx ≤ (T.H (i + 1)).nx)
    (hF : ∀ i, i < ops.size → isEff ops calm i = false → ∀ b, b < (T.H i).nx → (T.H (i + 1)).obj b = (T.H i).obj b)
    (hchk : ∀ i o, ops[i]? = some o → F.contains i = true → wantedA ops (T.E i) o = true → chk calm S (T.E i) (T.H i) (T.H (i + 1)) o.op)
    {D D' : Nat → Bool} {i : Nat} (hi : i < ops.size) (hDi : D i = false) (hD' : ∀ j, D' j = (D j || decide (j = i))) {o : Oper} (ho : ops[i]? = some o)
    (hbel : ∀ j oj, j < i → ops[j]? = some oj → D j = false → clsOk (clsOf calm oj.op) (clsOf calm o.op) = true ∨ (readEff (clsOf calm oj.op) (clsOf calm o.op) = true ∧ F.contains j = true ∧ F.contains i = true))
    (habv : ∀ j oj, i < j → ops[j]? = some oj → D j = true → clsOk (clsOf calm o.op) (clsOf calm oj.op) = true ∨ (readEff (clsOf calm o.op) (clsOf calm oj.op) = true ∧ F.contains i = true ∧ F.contains j = true))
    (heffs : ∀ j m, j < m → isEff ops calm j = true → isEff ops calm m = true → D m = true → D j = true) :
    ∃ g g' : Heap, g.nx = (T.H i).nx ∧ g'.nx = (T.H (i + 1)).nx ∧
      (∀ b x, b < (T.H i).nx → g.obj b = some x → (T.H i).obj b = some x ∧ (T.hD calm D).obj b = some x) ∧
      ((wantedA ops (T.E i) o = true ∧ evOp call P (T.E i) g o = some (.ok (T.V i), g')) ∨ (wantedA ops (T.E i) o = false ∧ T.V i = undef ∧ g' = g)) ∧
      (∀ b, b < (T.H (i + 1)).nx → (T.hD calm D').obj b = g'.obj b ∨ (b < (T.H i).nx ∧ g.obj b = none ∧ (T.hD calm D').obj b = (T.hD calm D).obj b)) ∧
      (∀ b, (T.H (i + 1)).nx ≤ b → b < (T.H ops.size).nx → (T.hD calm D').obj b = (T.hD calm D).obj b) ∧
      (∀ b, (T.H i).nx ≤ b → b < (T.H (i + 1)).nx → g'.obj b = (T.H (i + 1)).obj b) := by
  have hefc : ∀ j, isEff ops calm j = true → ∃ oj, ops[j]? = some oj ∧ clsOf calm oj.op = .eff := by
    intro j hj
    unfold isEff at hj
    cases hq : ops[j]? with
    | none => rw [hq] at hj; simp at hj
    | some oj => rw [hq] at hj; exact ⟨oj, rfl, by simpa using hj⟩
  have hst := (T.st i o ho).2
  -- no effect is unordered before 'i'
  have below : clsOk .eff (clsOf calm o.op) = false → (readEff .eff (clsOf calm o.op) = true → F.contains i = false) → ∀ j, j < i → isEff ops calm j = true → D j = true := by
    intro hcl hnf j hj he
    obtain ⟨oj, hoj, hc⟩ := hefc j he
    cases hd : D j with
    | true => rfl
    | false =>
      have := hbel j oj hj hoj hd
      rw [hc, hcl] at this
      rcases this with h1 | ⟨h1, _, h2⟩
      · cases h1
      · rw [hnf h1] at h2; cases h2
  have above : clsOk (clsOf calm o.op) .eff = false → (readEff (clsOf calm o.op) .eff = true → F.contains i = false) → ∀ j, i < j → D j = true → isEff ops calm j = false := by
    intro hcl hnf j hj hd
    cases he : isEff ops calm j with
    | false => rfl
    | true =>
      obtain ⟨oj, hoj, hc⟩ := hefc j he
      have := habv j oj hj hoj hd
      rw [hc, hcl] at this
      rcases this with h1 | ⟨h1, h2, _⟩
      · cases h1
      · rw [hnf h1] at h2; cases h2
  have flagged : F.contains i = false ∨ F.contains i = true := by cases F.contains i <;> simp
  have unsaid : ∀ {c : Cls}, readEff c .eff = false → readEff c .eff = true → F.contains i = false := fun h1 h2 => by rw [h1] at h2; cases h2
  have sameH : isEff ops calm i = false → T.hD calm D' = T.hD calm D := by
    intro hne
    have : (fun j => isEff ops calm j && !D' j) = fun j => isEff ops calm j && !D j := by
      funext j
      rw [hD' j]
      by_cases hji : j = i
      · subst hji; simp [hne]
      · simp [hji]
    unfold Tr.hD kst
    rw [this]
  have eff_eq : isEff ops calm i = (clsOf calm o.op == .eff) := by unfold isEff; rw [ho]
  have step1 : ∀ (_ : (wantedA ops (T.E i) o = true ∧ evOp call P (T.E i) (T.H i) o = some (.ok (T.V i), T.H (i + 1))) ∨ (wantedA ops (T.E i) o = false ∧ T.V i = undef ∧ T.H (i + 1) = T.H i)), True := fun _ => trivial
  have rowsCase : clsOf calm o.op = .read → isEff ops calm i = false → F.contains i = true → ∃ g g' : Heap, g.nx = (T.H i).nx ∧ g'.nx = (T.H (i + 1)).nx ∧
      (∀ b x, b < (T.H i).nx → g.obj b = some x → (T.H i).obj b = some x ∧ (T.hD calm D).obj b = some x) ∧
      ((wantedA ops (T.E i) o = true ∧ evOp call P (T.E i) g o = some (.ok (T.V i), g')) ∨ (wantedA ops (T.E i) o = false ∧ T.V i = undef ∧ g' = g)) ∧
      (∀ b, b < (T.H (i + 1)).nx → (T.hD calm D').obj b = g'.obj b ∨ (b < (T.H i).nx ∧ g.obj b = none ∧ (T.hD calm D').obj b = (T.hD calm D).obj b)) ∧
      (∀ b, (T.H (i + 1)).nx ≤ b → b < (T.H ops.size).nx → (T.hD calm D').obj b = (T.hD calm D).obj b) ∧
      (∀ b, (T.H i).nx ≤ b → b < (T.H (i + 1)).nx → g'.obj b = (T.H (i + 1)).obj b) := by
    intro hc hne hfl
    rcases hst with ⟨hw, hop⟩ | ⟨hw, hv, hh⟩
    · have hck := hchk i o ho hfl hw
      simp only [chk, hc] at hck
      obtain ⟨hnx, hS⟩ := hck
      -- the rows that are read stand as they did
      have keep : ∀ m, m < ops.size → isEff ops calm m = true → F.contains m = true → ∀ b, S b → b < (T.H m).nx → (T.H (m + 1)).obj b = (T.H m).obj b := by
        intro m hm he hFm b hb hlt
        obtain ⟨om, hom, hcm⟩ := hefc m he
        rcases (T.st m om hom).2 with ⟨hwm, _⟩ | ⟨_, _, hhm⟩
        · have := hchk m om hom hFm hwm
          simp only [chk, hcm] at this
          exact this b hb hlt
        · rw [hhm]
      have same : ∀ b ∈ readRows (T.E i) o.op, b < (T.H i).nx → (T.hD calm D).obj b = (T.H i).obj b := by
        intro b hb hlt
        have hbS := hS b hb
        have hbi := T.birth_le hmono (by omega : i ≤ ops.size) hlt
        obtain ⟨_, hbb⟩ := T.birth_spec (Nat.lt_of_lt_of_le hlt (T.nx_le hmono (by omega : i ≤ ops.size) (Nat.le_refl _)))
        have hkn := kst_le (ops := ops) calm D
        by_cases hk : i ≤ kst ops calm D
        · simp only [Tr.hD, Nat.max_eq_left (Nat.le_trans hbi hk)]
          have chain : ∀ k, i ≤ k → k ≤ kst ops calm D → (T.H k).obj b = (T.H i).obj b := by
            intro k hik
            induction hik with
            | refl => exact fun _ => rfl
            | @step k hs ih =>
              intro hkk
              rw [← ih (by omega)]
              have hltk : b < (T.H k).nx := Nat.lt_of_lt_of_le hlt (T.nx_le hmono hs (by omega))
              cases he : isEff ops calm k with
              | false => exact hF k (by omega) he b hltk
              | true =>
                have hDk := kst_below calm D (by omega : k < kst ops calm D) he
                obtain ⟨ok, hok, hck⟩ := hefc k he
                have hik2 : i < k := by
                  rcases Nat.lt_or_eq_of_le hs with h1 | h1
                  · exact h1
                  · subst h1; rw [hDi] at hDk; cases hDk
                rcases habv k ok hik2 hok hDk with h1 | ⟨_, _, h1⟩
                · rw [hc, hck] at h1; cases h1
                · exact keep k (by omega) he h1 b hbS hltk
          exact chain _ hk (Nat.le_refl _)
        · have hs : max (kst ops calm D) (T.birth b) ≤ i := by omega
          have chain : ∀ k, max (kst ops calm D) (T.birth b) ≤ k → k ≤ i → (T.H k).obj b = (T.H (max (kst ops calm D) (T.birth b))).obj b := by
            intro k hik
            induction hik with
            | refl => exact fun _ => rfl
            | @step k hs2 ih =>
              intro hkk
              have hs3 : max (kst ops calm D) (T.birth b) ≤ k := hs2
              have hs4 : kst ops calm D ≤ k := Nat.le_trans (Nat.le_max_left _ _) hs3
              have hs5 : T.birth b ≤ k := Nat.le_trans (Nat.le_max_right _ _) hs3
              rw [← ih (by omega)]
              have hltk : b < (T.H k).nx := Nat.lt_of_lt_of_le hbb (T.nx_le hmono (by omega : T.birth b ≤ k) (by omega))
              cases he : isEff ops calm k with
              | false => exact hF k (by omega) he b hltk
              | true =>
                obtain ⟨ok, hok, hck⟩ := hefc k he
                have hDk : D k = false := by
                  have hat := kst_at (ops := ops) calm D (by omega)
                  cases hd : D k with
                  | false => rfl
                  | true =>
                    rcases Nat.lt_or_eq_of_le (by omega : kst ops calm D ≤ k) with h1 | h1
                    · have := heffs _ k h1 hat.1 he hd; rw [hat.2] at this; cases this
                    · rw [← h1, hat.2] at hd; cases hd
                rcases hbel k ok (by omega) hok hDk with h1 | ⟨_, h1, _⟩
                · rw [hc, hck] at h1; cases h1
                · exact keep k (by omega) he h1 b hbS hltk
          simp only [Tr.hD]
          exact (chain i hs (Nat.le_refl _)).symm
      refine ⟨⟨fun b => if b ∈ readRows (T.E i) o.op then (T.H i).obj b else none, (T.H i).nx⟩, ⟨fun b => if b ∈ readRows (T.E i) o.op then (T.H i).obj b else none, (T.H i).nx⟩, rfl, hnx.symm, ?_, .inl ⟨hw, ?_⟩, ?_, ?_, ?_⟩
      · intro b x hb hx
        by_cases hm : b ∈ readRows (T.E i) o.op
        · simp only [hm, if_true] at hx
          exact ⟨hx, by rw [same b hm hb]; exact hx⟩
        · simp [hm] at hx
      · exact read_local hc hop hnx fun q hq => by simp [hq]
      · intro b hb
        rw [hnx] at hb
        by_cases hm : b ∈ readRows (T.E i) o.op
        · left
          simp only [hm, if_true]
          rw [sameH hne, same b hm hb]
        · right
          exact ⟨hb, by simp [hm], by rw [sameH hne]⟩
      · intro b _ _; rw [sameH hne]
      · intro b h1 h2; omega
    · refine ⟨⟨fun _ => none, (T.H i).nx⟩, ⟨fun _ => none, (T.H i).nx⟩, rfl, by rw [hh], fun b x _ hx => (by cases hx), .inr ⟨hw, hv, rfl⟩, ?_, ?_, ?_⟩
      · intro b hb; rw [hh] at hb; exact .inr ⟨hb, rfl, by rw [sameH hne]⟩
      · intro b _ _; rw [sameH hne]
      · intro b h1 h2; rw [hh] at h2; omega
  cases hc : clsOf calm o.op with
  | pure =>
    have hne : isEff ops calm i = false := by rw [eff_eq, hc]; rfl
    have hsame : T.H (i + 1) = T.H i := by
      rcases hst with ⟨_, hop⟩ | ⟨_, _, hh⟩
      · exact pure_of_cls hcalm hc hop
      · exact hh
    refine ⟨⟨fun _ => none, (T.H i).nx⟩, ⟨fun _ => none, (T.H i).nx⟩, rfl, by rw [hsame], fun b x _ hx => (by cases hx), ?_, ?_, ?_, ?_⟩
    · rcases hst with ⟨hw, hop⟩ | ⟨hw, hv, hh⟩
      · refine .inl ⟨hw, ?_⟩
        rw [pure_same hcalm (h := T.H i) hc, hop]; rfl
      · exact .inr ⟨hw, hv, rfl⟩
    · intro b hb; rw [hsame] at hb; exact .inr ⟨hb, rfl, by rw [sameH hne]⟩
    · intro b _ _; rw [sameH hne]
    · intro b h1 h2; rw [hsame] at h2; omega
  | alloc =>
    have hne : isEff ops calm i = false := by rw [eff_eq, hc]; rfl
    have hloc : ∃ g' : Heap, g'.nx = (T.H (i + 1)).nx ∧ (∀ b, g'.obj b = if (T.H i).nx ≤ b ∧ b < (T.H (i + 1)).nx then (T.H (i + 1)).obj b else none) ∧
        ((wantedA ops (T.E i) o = true ∧ evOp call P (T.E i) ⟨fun _ => none, (T.H i).nx⟩ o = some (.ok (T.V i), g')) ∨ (wantedA ops (T.E i) o = false ∧ T.V i = undef ∧ g' = ⟨fun _ => none, (T.H i).nx⟩)) := by
      rcases hst with ⟨hw, hop⟩ | ⟨hw, hv, hh⟩
      · obtain ⟨_, _, hl⟩ := local_of_cls hcalm (.inr hc) hop
        obtain ⟨g', q1, q2, q3⟩ := hl ⟨fun _ => none, (T.H i).nx⟩ rfl
        exact ⟨g', q2, q3, .inl ⟨hw, q1⟩⟩
      · refine ⟨⟨fun _ => none, (T.H i).nx⟩, by rw [hh], fun b => ?_, .inr ⟨hw, hv, rfl⟩⟩
        rw [hh, if_neg (by omega)]
    obtain ⟨g', q1, q2, q3⟩ := hloc
    have hab := above (by rw [hc]; rfl) (by rw [hc]; exact unsaid rfl)
    refine ⟨⟨fun _ => none, (T.H i).nx⟩, g', rfl, q1, fun b x _ hx => (by cases hx), q3, ?_, ?_, ?_⟩
    · intro b hb
      by_cases hbi : b < (T.H i).nx
      · exact .inr ⟨hbi, rfl, by rw [sameH hne]⟩
      · left
        rw [q2 b, if_pos ⟨by omega, hb⟩, sameH hne]
        have hn : b < (T.H ops.size).nx := Nat.lt_of_lt_of_le hb (T.nx_le hmono (by omega) (Nat.le_refl _))
        have b1 := T.birth_le hmono (by omega : i + 1 ≤ ops.size) hb
        have b2 := T.birth_gt hmono (by omega : i ≤ ops.size) (by omega : (T.H i).nx ≤ b) hn
        have hbe : T.birth b = i + 1 := by omega
        by_cases hk : kst ops calm D ≤ i + 1
        · simp only [Tr.hD, hbe, Nat.max_eq_right hk]
        · exact T.hD_at calm hmono hF (by omega) (by omega) (fun m h1 h2 => by
            cases he : isEff ops calm m with
            | false => rfl
            | true => have := hab m (by omega) (kst_below calm D h2 he); rw [he] at this; cases this) hb
    · intro b _ _; rw [sameH hne]
    · intro b h1 h2; rw [q2 b, if_pos ⟨h1, h2⟩]
  | read =>
    have hne : isEff ops calm i = false := by rw [eff_eq, hc]; rfl
    rcases flagged with hnf | hfl
    case inr => exact rowsCase hc hne hfl
    have hab := above (by rw [hc]; rfl) (fun _ => hnf)
    have hbe := below (by rw [hc]; rfl) (fun _ => hnf)
    have hk : i + 1 ≤ kst ops calm D := by
      have h1 : i ≤ kst ops calm D := kst_ge calm D (by omega) hbe
      rcases Nat.lt_or_eq_of_le h1 with h2 | h2
      · exact h2
      · have h3 := (kst_at (ops := ops) calm D (by omega)).1
        rw [← h2, hne] at h3; cases h3
    have hno : ∀ m, i ≤ m → m < kst ops calm D → isEff ops calm m = false := by
      intro m h1 h2
      cases he : isEff ops calm m with
      | false => rfl
      | true =>
        rcases Nat.lt_or_eq_of_le h1 with h3 | h3
        · have := hab m h3 (kst_below calm D h2 he); rw [he] at this; cases this
        · subst h3; rw [hne] at he; cases he
    refine ⟨T.H i, T.H (i + 1), rfl, rfl, fun b x hb hx => ⟨hx, ?_⟩, hst, ?_, ?_, fun _ _ _ => rfl⟩
    · rw [T.hD_at calm hmono hF (by omega) (by omega) hno hb, hx]
    · intro b hb
      left
      rw [sameH hne, T.hD_at calm hmono hF (by omega) hk (fun m h1 h2 => hno m (by omega) h2) hb]
    · intro b _ _; rw [sameH hne]
  | eff =>
    have heff : isEff ops calm i = true := by rw [eff_eq, hc]; rfl
    have hab : ∀ j, i < j → D j = true → isEff ops calm j = false := by
      intro j hj hd
      cases he : isEff ops calm j with
      | false => rfl
      | true => have := heffs i j hj heff he hd; rw [hDi] at this; cases this
    have hbe := below (by rw [hc]; rfl) (by rw [hc]; intro h1; cases h1)
    have hk : kst ops calm D = i := kst_unique calm D hi heff hDi hbe
    have hk' : i + 1 ≤ kst ops calm D' := kst_ge calm D' (by omega) fun j hj he => by
      rw [hD' j]
      by_cases hji : j = i
      · simp [hji]
      · simp [hbe j (by omega) he]
    have hno' : ∀ m, i + 1 ≤ m → m < kst ops calm D' → isEff ops calm m = false := by
      intro m h1 h2
      cases he : isEff ops calm m with
      | false => rfl
      | true =>
        have h3 := kst_below calm D' h2 he
        rw [hD' m] at h3
        have h4 : D m = true := by
          simp only [Bool.or_eq_true, decide_eq_true_eq] at h3
          rcases h3 with h3 | h3
          · exact h3
          · omega
        have := hab m (by omega) h4; rw [he] at this; cases this
    refine ⟨T.H i, T.H (i + 1), rfl, rfl, fun b x hb hx => ⟨hx, ?_⟩, hst, ?_, ?_, fun _ _ _ => rfl⟩
    · rw [T.hD_at calm hmono hF (by omega) (by omega) (fun m h1 h2 => by omega) hb, hx]
    · intro b hb
      left
      exact T.hD_at calm hmono hF (by omega) hk' hno' hb
    · intro b hb hbn
      have b2 := T.birth_gt hmono (by omega : i + 1 ≤ ops.size) hb hbn
      obtain ⟨b3, b4⟩ := T.birth_spec hbn
      have e1 : (T.hD calm D).obj b = (T.H (T.birth b)).obj b := by
        simp only [Tr.hD, hk, Nat.max_eq_right (by omega : i ≤ T.birth b)]
      rw [e1]
      by_cases hle : kst ops calm D' ≤ T.birth b
      · simp only [Tr.hD, Nat.max_eq_right hle]
      · simp only [Tr.hD, Nat.max_eq_left (by omega : T.birth b ≤ kst ops calm D')]
        exact T.same calm hmono hF (by omega) (kst_le calm D') (fun m h1 h2 => hno' m (by omega) h2) b4
end Go.Proofs.Ytfehhihllenjiaa
