/- Regions that draw: sound. -/
import Derived.Test.YtfehhihllenjiaaS
set_option linter.all false
namespace Go.Proofs.Ytfehhihllenjiaa

theorem ED_none' {call : Value → Phi} {P : Program} {ops : Array Oper} {e e' : Env} {h h' : Heap} (T : Tr call P ops e h e' h') {D : Nat → Bool} (hD : ∀ j, D j = false) : T.ED D = e := by
  funext t
  exact ED_none T fun j _ h1 => by rw [hD j] at h1; cases h1

theorem draw_sound {P : Program} (hP : ProgOk P) {calm : FuncId → Bool} {call : Value → Phi} (hcall : CallSound P call)
    (hcalm : CalmOk call calm) : DrawSound P calm call := by
  intro id ops F S hok e h e' h' hrun he μ w a b k cs B0 hr hf hE hg hm hB
  obtain ⟨T⟩ := trace_exists he
  obtain ⟨hed, hpair⟩ := drawOkF_spec hok
  have hopn : ∀ i, i < ops.size → ops[i]? = some (ops.getD i default) := fun i hi => by simp [hi]
  have hdst : ∀ (i : Nat) (o : Oper) d, ops[i]? = some o → o.dst = some d → d < a.tmps.size := by
    intro i o d hi hod
    have := List.all_eq_true.1 hg o (by simpa using Array.mem_of_getElem? hi)
    simp only [goodOper, hod, Bool.and_eq_true, decide_eq_true_eq] at this
    exact this.2
  have hgo : ∀ (i : Nat) (o : Oper), ops[i]? = some o → o.op.operands.toList.all goodOpd = true := by
    intro i o hi
    have := List.all_eq_true.1 hg o (by simpa using Array.mem_of_getElem? hi)
    simp only [goodOper, Bool.and_eq_true] at this
    exact this.1
  have hdist : ∀ i j, i < j → j < ops.size → ∀ t, dstOf ops i = some t → dstOf ops j ≠ some t := by
    intro i j hij hj t h1 h2
    have := (hpair i j _ _ hij (hopn i (by omega)) (hopn j hj)).1
    have d1 : (ops.getD i default).dst = some t := by unfold dstOf at h1; rw [hopn i (by omega)] at h1; exact h1
    have d2 : (ops.getD j default).dst = some t := by unfold dstOf at h2; rw [hopn j hj] at h2; exact h2
    rcases this with h3 | h3
    · rw [d1] at h3; cases h3
    · exact h3 (d1.trans d2.symm)
  have hchk : ∀ i o, ops[i]? = some o → F.contains i = true → wantedA ops (T.E i) o = true → chk calm S (T.E i) (T.H i) (T.H (i + 1)) o.op :=
    fun i o ho hFi hw => T.checked ops.toList 0 (fun j => by simp) (by rw [T.e0, T.h0]; exact hrun) i o (Nat.zero_le _) ho hFi hw
  -- the ghost: the run in the text's order
  have ghost1 : ∀ i, i < ops.size → (∃ μg wg, ∃ ag : Act, Step μ μg h (T.H i) w wg ∧ EnvR μg (T.E i) ag.tmps ∧ ag.tmps.size = a.tmps.size) →
      ∃ μg' wg', ∃ ag' : Act, Step μ μg' h (T.H (i + 1)) w wg' ∧ EnvR μg' (T.E (i + 1)) ag'.tmps ∧ ag'.tmps.size = a.tmps.size ∧ (T.H i).nx ≤ (T.H (i + 1)).nx ∧ (∀ b, b < (T.H i).nx → ((T.H (i + 1)).obj b).isSome = true → ((T.H i).obj b).isSome = true) := by
    rintro i hi ⟨μg, wg, ag, s, hEg, hsz⟩
    have ho := hopn i hi
    obtain ⟨hE1, hst⟩ := T.st i _ ho
    have hdst' : ∀ (i : Nat) (o : Oper) d, ops[i]? = some o → o.dst = some d → d < ag.tmps.size := fun i o d h1 h2 => by rw [hsz]; exact hdst i o d h1 h2
    rcases hst with ⟨hw, hop⟩ | ⟨hw, hv, hh⟩
    · have hwa := wanted_sound hEg ops hdst' (ops.getD i default)
      obtain ⟨μ1, w1, s1, v', hv, _⟩ := op_sound hP hcall hop (evs_sound hEg (hgo i _ ho)) s.rel s.fresh b k cs [] ho (by rw [hwa]; exact hw)
      refine ⟨μ1, w1, ag.put (ops.getD i default).dst v', s.trans hf s1, ?_, by rw [put_size]; exact hsz, s1.nx, s1.live⟩
      rw [hE1]
      exact (hEg.mono s1.ext).putE (fun x hx => hdst' i _ x ho hx) hv
    · refine ⟨μg, wg, ag.put (ops.getD i default).dst undef, by rw [hh]; exact s, ?_, by rw [put_size]; exact hsz, by rw [hh]; exact Nat.le_refl _, by rw [hh]; exact fun _ _ hl => hl⟩
      rw [hE1, hv]
      exact hEg.putE (fun x hx => hdst' i _ x ho hx) (.tuple .nil)
  have ghost : ∀ i, i ≤ ops.size → ∃ μg wg, ∃ ag : Act, Step μ μg h (T.H i) w wg ∧ EnvR μg (T.E i) ag.tmps ∧ ag.tmps.size = a.tmps.size := by
    intro i
    induction i with
    | zero => intro _; exact ⟨μ, w, a, by rw [T.h0]; exact .refl hr hf, by rw [T.e0]; exact hE, rfl⟩
    | succ i ih =>
      intro hi
      obtain ⟨μ1, w1, a1, h1, h2, h3, _⟩ := ghost1 i (by omega) (ih (by omega))
      exact ⟨μ1, w1, a1, h1, h2, h3⟩
  have hmono : ∀ i, i < ops.size → (T.H i).nx ≤ (T.H (i + 1)).nx := fun i hi => by
    obtain ⟨_, _, _, _, _, _, h4, _⟩ := ghost1 i hi (ghost i (by omega))
    exact h4
  have hlive1 : ∀ i j, i ≤ j → j ≤ ops.size → ∀ b, b < (T.H i).nx → ((T.H j).obj b).isSome = true → ((T.H i).obj b).isSome = true := by
    intro i j hij
    induction hij with
    | refl => exact fun _ _ _ hl => hl
    | @step k hs ih =>
      intro hj b hb hl
      obtain ⟨_, _, _, _, _, _, _, h5⟩ := ghost1 k (by omega) (ghost k (by omega))
      exact ih (by omega) b hb (h5 b (Nat.lt_of_lt_of_le hb (T.nx_le hmono hs (by omega))) hl)
  have hlive : ∀ i, i ≤ ops.size → ∀ b, b < h.nx → ((T.H i).obj b).isSome = true → (h.obj b).isSome = true := fun i hi b hb hl => by
    obtain ⟨_, _, _, s, _⟩ := ghost i hi
    exact s.live b hb hl
  have hnx0 : ∀ i, i ≤ ops.size → h.nx ≤ (T.H i).nx := fun i hi => by
    obtain ⟨_, _, _, s, _⟩ := ghost i hi
    exact s.nx
  have hF : ∀ i, i < ops.size → isEff ops calm i = false → ∀ b, b < (T.H i).nx → (T.H (i + 1)).obj b = (T.H i).obj b := by
    intro i hi hne
    have ho := hopn i hi
    obtain ⟨_, hst⟩ := T.st i _ ho
    rcases hst with ⟨hw, hop⟩ | ⟨hw, hv, hh⟩
    · unfold isEff at hne
      rw [ho] at hne
      change (clsOf calm (ops.getD i default).op == .eff) = false at hne
      cases hc : clsOf calm (ops.getD i default).op with
      | pure => exact (local_of_cls hcalm (.inl hc) hop).1
      | alloc => exact (local_of_cls hcalm (.inr hc) hop).1
      | read => exact read_of_cls hc hop
      | eff => rw [hc] at hne; simp at hne
    · intro b _; rw [hh]
  -- the drawn run
  have main : ∀ (fuel t : Nat) (listed : Array Bool) (μD : Mu) (wD : World) (aD : Act), listed.size = ops.size → listed.toList.count true + fuel = ops.size →
      (∀ (j : Nat) (o : Oper), listed.getD j false = true → ops[j]? = some o → ∀ ed ∈ o.after.toList, Region.binds .any ed = true → listed.getD ed.on false = true) →
      Seen μ h w μD (T.hD calm fun j => listed.getD j false) wD → EnvR μD (T.ED fun j => listed.getD j false) aD.tmps → aD.tmps.size = a.tmps.size → MarksOk B0 μD (T.hD calm fun j => listed.getD j false) wD aD.defers →
      (∀ b, (μD b).isSome = true → b < h.nx ∨ ∃ j, j < ops.size ∧ listed.getD j false = true ∧ (T.H j).nx ≤ b ∧ b < (T.H (j + 1)).nx) → (∀ j, j < ops.size → listed.getD j false = true → ∀ b, (T.H j).nx ≤ b → b < (T.H (j + 1)).nx → ((T.H (j + 1)).obj b).isSome = true → (μD b).isSome = true) →
      Goes P B0 μ h w a.tmps.size (lone (b.atR aD (.inRegion ops (Region.linearise.go .any ops fuel t listed []) :: k)) cs wD) b k cs .normal e' h' := by
    intro fuel
    -- the end
    have fin : ∀ (listed : Array Bool) (μD : Mu) (wD : World) (aD : Act), (∀ i, i < ops.size → listed.getD i false = true) → Seen μ h w μD (T.hD calm fun j => listed.getD j false) wD → EnvR μD (T.ED fun j => listed.getD j false) aD.tmps → aD.tmps.size = a.tmps.size →
        MarksOk B0 μD (T.hD calm fun j => listed.getD j false) wD aD.defers → (∀ b, (μD b).isSome = true → b < h.nx ∨ ∃ j, j < ops.size ∧ listed.getD j false = true ∧ (T.H j).nx ≤ b ∧ b < (T.H (j + 1)).nx) → (∀ j, j < ops.size → listed.getD j false = true → ∀ b, (T.H j).nx ≤ b → b < (T.H (j + 1)).nx → ((T.H (j + 1)).obj b).isSome = true → (μD b).isSome = true) →
        Goes P B0 μ h w a.tmps.size (lone (b.atR aD (.inRegion ops [] :: k)) cs wD) b k cs .normal e' h' := by
      intro listed μD wD aD hall hs hEd hsz hmk hdom hfl
      have hlt : ∀ b, (μD b).isSome = true → b < (T.H ops.size).nx := fun b hb => by
        rcases hdom b hb with h1 | ⟨j, h1, _, _, h2⟩
        · exact Nat.lt_of_lt_of_le h1 (hnx0 _ (Nat.le_refl _))
        · exact Nat.lt_of_lt_of_le h2 (T.nx_le hmono (by omega) (Nat.le_refl _))
      have hk : kst ops calm (fun j => listed.getD j false) = ops.size := by
        have h1 := kst_le (ops := ops) calm (fun j => listed.getD j false)
        rcases Nat.lt_or_eq_of_le h1 with h2 | h2
        · have := (kst_at calm (fun j => listed.getD j false) h2).2
          rw [hall _ h2] at this; cases this
        · exact h2
      have hobj : ∀ b, (μD b).isSome = true → (T.hD calm fun j => listed.getD j false).obj b = h'.obj b := fun b hb => by
        rw [T.hD_at calm hmono hF (Nat.le_refl _) (by omega) (fun m h1 h2 => by omega) (hlt b hb), T.hn]
      have hEn : T.ED (fun j => listed.getD j false) = e' := by
        refine Eq.trans ?_ T.en
        rw [E_eq_ED T hdist _ (Nat.le_refl _)]
        funext t
        unfold Tr.ED
        have : (fun j => (listed.getD j false && (dstOf ops j == some t))) = fun j => (listed.getD j false && (dstOf ops j == some t)) := rfl
        have hff : firstN ops.size (fun j => listed.getD j false && (dstOf ops j == some t)) = firstN ops.size (fun j => decide (j < ops.size) && (dstOf ops j == some t)) := by
          apply firstN_congr
          intro j hj'
          rw [hall j hj']
          simp [hj']
        rw [hff]
      have hfull : ∀ b, h.nx ≤ b → b < h'.nx → (h'.obj b).isSome = true → (μD b).isSome = true := by
        intro b h1 h2 h3
        rw [← T.hn] at h2 h3
        obtain ⟨b3, b4⟩ := T.birth_spec h2
        have h4 : 0 < T.birth b := T.birth_gt hmono (Nat.zero_le _) (by rw [T.h0]; exact h1) h2
        obtain ⟨j, hj⟩ : ∃ j, T.birth b = j + 1 := ⟨T.birth b - 1, by omega⟩
        rw [hj] at b3 b4
        have h5 : (T.H j).nx ≤ b := Nat.le_of_not_lt fun hlt => by
          have := T.birth_le hmono (by omega : j ≤ ops.size) hlt; omega
        exact hfl j (by omega) (hall j (by omega)) b h5 b4 (hlive1 (j + 1) ops.size (by omega) (Nat.le_refl _) b b4 h3)
      refine ⟨μD, wD, aD, ⟨hs.ext, hs.new, fun b hb hl => hlive ops.size (Nat.le_refl _) b hb (by rw [T.hn]; exact hl), ⟨fun b m o hb ho => hs.rel.obj b m o hb (by rw [hobj b (by simp [hb])]; exact ho), fun b b' m m' hb hb' hl hl' hne hkk => ?_⟩, ?_, by rw [← T.hn]; exact hnx0 _ (Nat.le_refl _), hfull, hs.pres⟩, by rw [← hEn]; exact hEd, hsz, ?_, .one stepR_region_end⟩
      · exact hs.rel.inj b b' m m' hb hb' (by rw [hobj b (by simp [hb])]; exact hl) (by rw [hobj b' (by simp [hb'])]; exact hl') hne hkk
      · intro b hb
        cases hq : μD b with
        | none => rfl
        | some m =>
          have := hlt b (by simp [hq])
          rw [T.hn] at this
          omega
      · obtain ⟨rs, q1, q2, q3⟩ := hmk
        exact ⟨rs, q1, q2, fun r hrm => ⟨(q3 r hrm).1, (q3 r hrm).2.1, fun b m hb hl => (q3 r hrm).2.2 b m hb (by rw [hobj b (by simp [hb])]; exact hl)⟩⟩
    induction fuel with
    | zero =>
      intro t listed μD wD aD hsz hcnt hdown hs hEd hsa hmk hdom hfl
      have hall : ∀ i, i < ops.size → listed.getD i false = true := by
        intro i hi
        have h1 : listed.toList.count true = listed.toList.length := by simp only [Array.length_toList]; omega
        have h2 := List.count_eq_length.1 h1
        have hi2 : i < listed.size := by omega
        have := h2 listed[i] (by simp)
        simp only [Array.getD_eq_getD_getElem?, Array.getElem?_eq_getElem hi2, Option.getD_some]
        exact this.symm
      simp only [Region.linearise.go, List.reverse_nil]
      exact fin listed μD wD aD hall hs hEd hsa hmk hdom hfl
    | succ fuel ih =>
      intro t listed μD wD aD hsz hcnt hdown hs hEd hsa hmk hdom hfl
      have hgoeq : Region.linearise.go .any ops (fuel + 1) t listed [] = match (Region.ready .any ops listed)[t % (Region.ready .any ops listed).length]? with
          | some i => Region.linearise.go .any ops fuel (t / (Region.ready .any ops listed).length) (listed.setIfInBounds i true) [i]
          | none => [].reverse := rfl
      rw [hgoeq]
      cases hi : (Region.ready .any ops listed)[t % (Region.ready .any ops listed).length]? with
      | none =>
        have hnil : Region.ready .any ops listed = [] := by
          cases hrd : Region.ready .any ops listed with
          | nil => rfl
          | cons x xs =>
            rw [hrd] at hi
            have hlt : t % (x :: xs).length < (x :: xs).length := Nat.mod_lt _ (by simp)
            have := List.getElem?_eq_none_iff.1 hi
            omega
        exact fin listed μD wD aD (ready_empty hed hsz hnil) hs hEd hsa hmk hdom hfl
      | some i =>
        simp only [linearise_go_acc .any ops fuel _ _ [i], List.reverse_singleton, List.singleton_append]
        have hmem : i ∈ Region.ready .any ops listed := List.mem_of_getElem? hi
        obtain ⟨hin, hDi, hafter⟩ := ready_spec hmem hsz
        have ho := hopn i hin
        generalize hod : ops.getD i default = o at ho
        have hset : ∀ j, (listed.setIfInBounds i true).getD j false = (listed.getD j false || decide (j = i)) := fun j => set_getD listed i j (by omega)
        have ordA : ∀ j, j < ops.size → listed.getD j false = true → ∀ m, ((Region.before ops).getD j 0).testBit m = true → listed.getD m false = true :=
          fun j hj hd m hb => before_closed hed (D := fun j => listed.getD j false = true) hdown m j hj hd hb
        have hdown' : ∀ (j : Nat) (o : Oper), (listed.setIfInBounds i true).getD j false = true → ops[j]? = some o → ∀ ed ∈ o.after.toList, Region.binds .any ed = true → (listed.setIfInBounds i true).getD ed.on false = true := by
          intro j oj hj hoj ed hm hb
          rw [hset] at hj ⊢
          simp only [Bool.or_eq_true, decide_eq_true_eq] at hj ⊢
          rcases hj with hj | rfl
          · exact .inl (hdown j oj hj hoj ed hm hb)
          · exact .inl (hafter oj hoj ed hm hb)
        have ordB : ∀ m, m < i → ((Region.before ops).getD i 0).testBit m = true → listed.getD m false = true := by
          intro m hm hb
          have := before_closed hed (D := fun j => (listed.setIfInBounds i true).getD j false = true) hdown' m i hin (by rw [hset]; simp) hb
          rw [hset] at this
          simp only [Bool.or_eq_true, decide_eq_true_eq] at this
          rcases this with h1 | h1
          · exact h1
          · omega
        have hbel : ∀ j oj, j < i → ops[j]? = some oj → listed.getD j false = false → oj.apart ops o = true ∧ (clsOk (clsOf calm oj.op) (clsOf calm o.op) = true ∨ (readEff (clsOf calm oj.op) (clsOf calm o.op) = true ∧ F.contains j = true ∧ F.contains i = true)) := by
          intro j oj hj hoj hd
          rcases (hpair j i oj o hj hoj ho).2 with h1 | h1
          · rw [ordB j hj h1] at hd; cases hd
          · exact h1
        have habv : ∀ j oj, i < j → ops[j]? = some oj → listed.getD j false = true → o.apart ops oj = true ∧ (clsOk (clsOf calm o.op) (clsOf calm oj.op) = true ∨ (readEff (clsOf calm o.op) (clsOf calm oj.op) = true ∧ F.contains i = true ∧ F.contains j = true)) := by
          intro j oj hj hoj hd
          have hjn := (Array.getElem?_eq_some_iff.1 hoj).1
          rcases (hpair i j o oj hj ho hoj).2 with h1 | h1
          · rw [ordA j hjn hd i h1] at hDi; cases hDi
          · exact h1
        have agree : ∀ t, t ∈ o.looksAt ops → T.ED (fun j => listed.getD j false) t = T.E i t := by
          intro t ht
          rw [E_eq_ED T hdist i (by omega)]
          have key : ∀ j, j < ops.size → dstOf ops j = some t → listed.getD j false = decide (j < i) := by
            intro j hj hdj
            have hoj := hopn j hj
            have d1 : (ops.getD j default).dst = some t := by unfold dstOf at hdj; rw [hoj] at hdj; exact hdj
            rcases Nat.lt_trichotomy j i with hlt | rfl | hgt
            · rw [decide_eq_true hlt]
              cases hd : listed.getD j false with
              | true => rfl
              | false => exact absurd ht ((Oper.apart_spec (hbel j _ hlt hoj hd).1).1 t d1)
            · rw [hDi]; simp
            · rw [decide_eq_false (by omega)]
              cases hd : listed.getD j false with
              | false => rfl
              | true => exact absurd ht ((Oper.apart_spec (habv j _ hgt hoj hd).1).2.2 t d1)
          unfold Tr.ED
          have hff : firstN ops.size (fun j => listed.getD j false && (dstOf ops j == some t)) = firstN ops.size (fun j => decide (j < i) && (dstOf ops j == some t)) := by
            apply firstN_congr
            intro j hj'
            by_cases hdj : dstOf ops j = some t
            · rw [key j hj' hdj]
            · rw [show (dstOf ops j == some t) = false by simpa using hdj]; simp
          rw [hff]
        have hevx : ∀ x ∈ o.op.operands.toList, ev (T.ED fun j => listed.getD j false) x = ev (T.E i) x := by
          intro x hx
          cases x with
          | tmp t => exact agree t (by simp only [Oper.looksAt, List.mem_append, List.mem_filterMap]; exact .inl ⟨_, hx, rfl⟩)
          | _ => rfl
        have hwe : wantedA ops (T.ED fun j => listed.getD j false) o = wantedA ops (T.E i) o := by
          unfold wantedA
          cases hgd : o.guard with
          | none => rfl
          | some p =>
            obtain ⟨j, want⟩ := p
            simp only [yieldedA]
            cases hdj : (ops[j]?).bind (·.dst) with
            | none => rfl
            | some d => simp only; rw [agree d (by simp [Oper.looksAt, hgd, hdj])]
        have hgo' : o.op.operands.toList.all goodOpd = true := hgo i o ho
        have hdstA : ∀ (i : Nat) (o : Oper) d, ops[i]? = some o → o.dst = some d → d < aD.tmps.size := fun i o d h1 h2 => by rw [hsa]; exact hdst i o d h1 h2
        have hwant := wanted_sound hEd ops hdstA o
        rw [hwe] at hwant
        have hdo : dstOf ops i = o.dst := by simp [dstOf, ho]
        have heffs : ∀ j m, j < m → isEff ops calm j = true → isEff ops calm m = true → listed.getD m false = true → listed.getD j false = true := by
          intro j m hjm hej hem hdm
          have get : ∀ x, isEff ops calm x = true → ∃ ox, ops[x]? = some ox ∧ clsOf calm ox.op = .eff := by
            intro x hx
            unfold isEff at hx
            cases hq : ops[x]? with
            | none => rw [hq] at hx; simp at hx
            | some ox => rw [hq] at hx; exact ⟨ox, rfl, by simpa using hx⟩
          obtain ⟨oj, hoj, hcj⟩ := get j hej
          obtain ⟨om, hom, hcm⟩ := get m hem
          have hmn := (Array.getElem?_eq_some_iff.1 hom).1
          rcases (hpair j m oj om hjm hoj hom).2 with h1 | ⟨_, h1⟩
          · exact ordA m hmn hdm j h1
          · rw [hcj, hcm] at h1
            rcases h1 with h1 | ⟨h1, _⟩ <;> cases h1
        obtain ⟨g, g', hgn, hgn', hgag, hgst, hh1, hh2, hgnew⟩ := T.pick calm F S hcalm hmono hF hchk (D := fun j => listed.getD j false) (D' := fun j => (listed.setIfInBounds i true).getD j false) hin hDi hset ho
          (fun j oj h1 h2 h3 => (hbel j oj h1 h2 h3).2) (fun j oj h1 h2 h3 => (habv j oj h1 h2 h3).2) heffs
        -- the part that the operation sees
        obtain ⟨μg, wg, ag, sg, hEg, hszg⟩ := ghost i (by omega)
        have hnx := hmono i hin
        have hn0 := hnx0 i (by omega)
        have hdr : ∀ b, (μg b).isSome = true → ∀ m, μD b = some m → (fun b => if b < (T.H i).nx then μD b else none) b = some m := by
          intro b hb m hm
          obtain ⟨m', hm'⟩ := Option.isSome_iff_exists.1 hb
          have : b < (T.H i).nx := sg.fresh.lt hm'
          simp only [this, if_true]; exact hm
        have hrel : Rel (fun b => if b < (T.H i).nx then μD b else none) g wD := by
          constructor
          · intro b m x hb hx
            by_cases hbi : b < (T.H i).nx
            · simp only [hbi, if_true] at hb
              obtain ⟨hHi, hhD⟩ := hgag b x hbi hx
              have hmg : ∃ mg, μg b = some mg := by
                rcases hs.new b m hb with h1 | ⟨h1, _⟩
                · exact ⟨m, sg.ext b m h1⟩
                · exact Option.isSome_iff_exists.1 (sg.full b h1 hbi (by rw [hHi]; rfl))
              obtain ⟨mg, hmg⟩ := hmg
              exact ObjRel.restrict hdr (sg.rel.obj b mg x hmg hHi) (hs.rel.obj b m x hb hhD)
            · simp [hbi] at hb
          · intro b b' m m' hb hb' hl hl' hne hk
            by_cases hbi : b < (T.H i).nx
            · by_cases hbi' : b' < (T.H i).nx
              · simp only [hbi, hbi', if_true] at hb hb'
                obtain ⟨x, hx⟩ := Option.isSome_iff_exists.1 hl
                obtain ⟨x', hx'⟩ := Option.isSome_iff_exists.1 hl'
                exact hs.rel.inj b b' m m' hb hb' (by rw [(hgag b x hbi hx).2]; rfl) (by rw [(hgag b' x' hbi' hx').2]; rfl) hne hk
              · simp [hbi'] at hb'
            · simp [hbi] at hb
        have hfr : Fresh (fun b => if b < (T.H i).nx then μD b else none) g := by
          intro b hb
          simp only [show ¬ b < (T.H i).nx by omega, if_false]
        have hstep : ∃ μr' wD' v', Step (fun b => if b < (T.H i).nx then μD b else none) μr' g g' wD wD' ∧ VR μr' (T.V i) v' ∧
            Steps P (lone (b.atR aD (.inRegion ops (i :: (Region.linearise.go .any ops fuel (t / (Region.ready .any ops listed).length) (listed.setIfInBounds i true) [])) :: k)) cs wD) (lone (b.atR (aD.put o.dst v') (.inRegion ops (Region.linearise.go .any ops fuel (t / (Region.ready .any ops listed).length) (listed.setIfInBounds i true) []) :: k)) cs wD') := by
          rcases hgst with ⟨hw, hop⟩ | ⟨hw, hv, hgg⟩
          · have hev0 : ∀ x ∈ o.op.operands.toList, VR (fun b => if b < (T.H i).nx then μD b else none) (ev (T.E i) x) (aD.eval x) := by
              intro x hx
              refine VR.restrict hdr (evs_sound hEg hgo' x hx) ?_
              rw [← hevx x hx]
              exact evs_sound hEd hgo' x hx
            obtain ⟨μr', wD', st, v', hv, hsteps⟩ := op_sound hP hcall hop hev0 hrel hfr b k cs (Region.linearise.go .any ops fuel (t / (Region.ready .any ops listed).length) (listed.setIfInBounds i true) []) ho (by rw [hwant]; exact hw)
            exact ⟨μr', wD', v', st, hv, hsteps⟩
          · refine ⟨_, wD, undef, by rw [hgg]; exact .refl hrel hfr, by rw [hv]; exact .tuple .nil, .one ?_⟩
            have := stepR_op_skip (P := P) (b := b) (a := aD) (k := k) (cs := cs) (w := wD) (ops := ops) (i := i) (rest := Region.linearise.go .any ops fuel (t / (Region.ready .any ops listed).length) (listed.setIfInBounds i true) []) (by simp [ho]; rw [hwant]; simpa using hw)
            rw [ho] at this
            exact this
        obtain ⟨μr', wD', v', st, hv', hsteps⟩ := hstep
        have hdomlt : ∀ b, (μD b).isSome = true → b < (T.H ops.size).nx := fun b hb => by
          rcases hdom b hb with h1 | ⟨j, h1, _, _, h2⟩
          · exact Nat.lt_of_lt_of_le h1 (hnx0 _ (Nat.le_refl _))
          · exact Nat.lt_of_lt_of_le h2 (T.nx_le hmono (by omega) (Nat.le_refl _))
        have hnone : ∀ b, (T.H i).nx ≤ b → b < (T.H (i + 1)).nx → μD b = none := by
          intro b h1 h2
          cases hq : μD b with
          | none => rfl
          | some m =>
            rcases hdom b (by simp [hq]) with h3 | ⟨j, h3, h4, h5, h6⟩
            · omega
            · exfalso
              rcases Nat.lt_trichotomy j i with h7 | rfl | h7
              · have := T.nx_le hmono (by omega : j + 1 ≤ i) (by omega); omega
              · rw [hDi] at h4; cases h4
              · have := T.nx_le hmono (by omega : i + 1 ≤ j) (by omega); omega
        obtain ⟨s', x1, x2, x3⟩ := seen_step hf hs hn0 hgn hgn' (fun b x hb hx _ => (hgag b x hb hx).2) hnone st (hD' := T.hD calm fun j => (listed.setIfInBounds i true).getD j false)
          (fun b hb _ => hh1 b hb) (fun b hb hm => hh2 b hb (hdomlt b hm)) (fun b hb hl => by
            refine hlive _ ?_ b hb hl
            have h1 := kst_le (ops := ops) calm (fun j => (listed.setIfInBounds i true).getD j false)
            have h2 := T.birth_le hmono (Nat.zero_le _) (by rw [T.h0]; exact hb : b < (T.H 0).nx)
            omega)
        refine Goes.of_steps hsteps (ih _ (listed.setIfInBounds i true) _ wD' (aD.put o.dst v') (by simpa using hsz) (by rw [count_set listed i (by omega) hDi]; omega) hdown' s' ?_ (by rw [put_size]; exact hsa) (by rw [put_defers]; exact x3 _ _ hmk) ?_ ?_)
        · rw [ED_put T hdist hin (fun j _ => hset j), hdo]
          exact (hEd.mono x1).putE (fun x hx => hdstA i o x ho hx) (hv'.mono x2)
        · intro b hb
          by_cases hbj : b < (T.H (i + 1)).nx
          · simp only [hbj, if_true] at hb
            by_cases hbi : b < (T.H i).nx
            · obtain ⟨m, hm⟩ := Option.isSome_iff_exists.1 hb
              rcases st.new b m hm with h1 | ⟨h1, _⟩
              · simp only [hbi, if_true] at h1
                rcases hdom b (by simp [h1]) with h2 | ⟨j, h2, h3, h4⟩
                · exact .inl h2
                · exact .inr ⟨j, h2, by rw [hset, h3]; rfl, h4⟩
              · omega
            · exact .inr ⟨i, hin, by rw [hset]; simp, by omega, hbj⟩
          · simp only [hbj, if_false] at hb
            rcases hdom b hb with h2 | ⟨j, h2, h3, h4⟩
            · exact .inl h2
            · exact .inr ⟨j, h2, by rw [hset, h3]; rfl, h4⟩
        · intro j hj hd b h1 h2 h3
          rw [hset] at hd
          simp only [Bool.or_eq_true, decide_eq_true_eq] at hd
          rcases hd with hd | rfl
          · obtain ⟨m, hm⟩ := Option.isSome_iff_exists.1 (hfl j hj hd b h1 h2 h3)
            exact (congrArg Option.isSome (x1 b m hm)).trans rfl
          · simp only [h2, if_true]
            exact st.full b (by omega) (by omega) (by rw [hgnew b h1 h2]; exact h3)
  have hD0 : ∀ j, (Array.replicate ops.size false).getD j false = false := by
    intro j
    by_cases hj : j < ops.size <;> simp [hj]
  have h0 : ∀ b, b < h.nx → (T.hD calm fun j => (Array.replicate ops.size false).getD j false).obj b = h.obj b := by
    intro b hb
    have hno : ∀ m, 0 ≤ m → m < kst ops calm (fun j => (Array.replicate ops.size false).getD j false) → isEff ops calm m = false := by
      intro m _ h2
      cases hq : isEff ops calm m with
      | false => rfl
      | true => have := kst_below calm _ h2 hq; rw [hD0] at this; cases this
    rw [T.hD_at calm hmono hF (Nat.zero_le _) (Nat.zero_le _) hno (by rw [T.h0]; exact hb), T.h0]
  have r0 := (Step.drew hr hf).rel
  have start := main ops.size (w.tape w.drawn (.order b.fn id)) (Array.replicate ops.size false) μ w.drew a (by simp) (by simp [List.count_replicate]) (by intro j o hj; rw [hD0] at hj; cases hj)
    ⟨.refl μ, fun b m hb => .inl hb, fun b hb hl => by rw [h0 b hb] at hl; exact hl,
      ⟨fun b m x hb hx => r0.obj b m x hb (by rw [← h0 b (hf.lt hb)]; exact hx), fun b b' m m' hb hb' hl hl' => r0.inj b b' m m' hb hb' (by rw [← h0 b (hf.lt hb)]; exact hl) (by rw [← h0 b' (hf.lt hb')]; exact hl')⟩, (Step.drew hr hf).pres⟩
    (by rw [ED_none' T hD0]; exact hE) rfl (by
      obtain ⟨rs, q1, q2, q3⟩ := hm.step hf (Step.drew hr hf)
      exact ⟨rs, q1, q2, fun r hrm => ⟨(q3 r hrm).1, (q3 r hrm).2.1, fun b m hb hl => (q3 r hrm).2.2 b m hb (by rw [← h0 b (hf.lt hb)]; exact hl)⟩⟩)
    (fun b hb => by obtain ⟨m, hm⟩ := Option.isSome_iff_exists.1 hb; exact .inl (hf.lt hm)) (fun j hj hd => by rw [hD0] at hd; cases hd)
  refine Goes.of_steps (.one ?_) start
  have := stepR_region_draw (P := P) (b := b) (a := a) (k := k) (cs := cs) (w := w) (ops := ops) (id := id)
  rw [this]
  simp only [Region.schedule, hP.mixed, Bool.true_or, if_true]
  rfl
end Go.Proofs.Ytfehhihllenjiaa
