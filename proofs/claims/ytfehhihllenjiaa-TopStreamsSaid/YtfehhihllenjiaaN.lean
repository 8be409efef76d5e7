/- Calls, rounds, whole functions. -/
import Derived.Test.YtfehhihllenjiaaM
set_option linter.all false
namespace Go.Proofs.Ytfehhihllenjiaa

theorem goodOper_mono {n m : Nat} (h : n ≤ m) {o : Oper} (hg : goodOper n o = true) : goodOper m o = true := by
  simp only [goodOper, Bool.and_eq_true] at hg ⊢
  refine ⟨hg.1, ?_⟩
  cases hd : o.dst with
  | none => rfl
  | some d =>
    have h2 := hg.2
    rw [hd] at h2
    simp only [decide_eq_true_eq] at h2 ⊢
    exact Nat.lt_of_lt_of_le h2 h
theorem goodCode_mono {n m : Nat} (h : n ≤ m) : ∀ c, goodCode n c = true → goodCode m c = true
  | .region _ ops _, hg => by
    simp only [goodCode, List.all_eq_true] at hg ⊢
    exact fun o ho => goodOper_mono h (hg o ho)
  | .seq a b, hg => by simp only [goodCode, Bool.and_eq_true] at hg ⊢; exact ⟨goodCode_mono h a hg.1, goodCode_mono h b hg.2⟩
  | .cond _ a b, hg => by simp only [goodCode, Bool.and_eq_true] at hg ⊢; exact ⟨⟨hg.1.1, goodCode_mono h a hg.1.2⟩, goodCode_mono h b hg.2⟩
  | .block _ b, hg => by simp only [goodCode] at hg ⊢; exact goodCode_mono h b hg
  | .loop b, hg => by simp only [goodCode] at hg ⊢; exact goodCode_mono h b hg
  | .scope b, hg => by simp only [goodCode] at hg ⊢; exact goodCode_mono h b hg
  | .rangeFunc _ ps a b, hg => by
    simp only [goodCode, Bool.and_eq_true, List.all_eq_true, decide_eq_true_eq] at hg ⊢
    exact ⟨⟨⟨hg.1.1.1, fun t ht => Nat.lt_of_lt_of_le (hg.1.1.2 t ht) h⟩, goodCode_mono h a hg.1.2⟩, goodCode_mono h b hg.2⟩
  | .skip, _ | .exit _, _ | .label _, _ | .goto _, _ | .ret, _ | .refuse _, _ => rfl

theorem Step.unmapped {μ μ' : Mu} {h h' : Heap} {w w' : World} (s : Step μ μ' h h' w w') {r : Nat} (hr : w.heap.size ≤ r) (hno : ∀ b m, μ' b = some m → (h'.obj b).isSome = true → m.B ≠ r) (ob : Obj) :
    Step μ μ' h h' w (w'.setBlk r ob) := by
  have hoth : ∀ C, C ≠ r → (w'.setBlk r ob).heap[C]? = w'.heap[C]? := fun C hC => setBlk_other hC
  refine ⟨s.ext, s.new, s.live, ⟨fun b m o hb ho => (s.rel.obj b m o hb ho).of_heap (hoth _ (hno b m hb (by simp [ho]))), s.rel.inj⟩, s.fresh, s.nx, s.full, ⟨s.pres.os, s.pres.tape, s.pres.output, by simpa [World.setBlk] using s.pres.size, fun B hB hn => ?_⟩⟩
  rw [hoth B (by omega)]
  exact s.pres.block B hB hn

/-- The marks are taken away. -/
theorem marks_leave {P : Program} {μ μ' : Mu} {h h' : Heap} {w : World} (fr : Frame) (cs : List Frame) (hmode : fr.mode ≠ .run) : ∀ (rs : List Nat) (w' : World), rs.Nodup → Step μ μ' h h' w w' →
    (∀ r ∈ rs, w.heap.size ≤ r ∧ w'.heap[r]? = some (.deferred (some [])) ∧ ∀ b m, μ' b = some m → (h'.obj b).isSome = true → m.B ≠ r) →
    ∃ w'', Step μ μ' h h' w w'' ∧ Steps P (lone { fr with defers := rs.map (fun r => { target := .collected r, args := #[] }) } cs w') (lone { fr with defers := [] } cs w'')
  | [], w', _, s, _ => ⟨w', s, .refl _ _⟩
  | r :: rs, w', hn, s, hr => by
    obtain ⟨h1, h2, h3⟩ := hr r (by simp)
    have hn' := List.nodup_cons.1 hn
    have htake : (Instr.takeDeferred r).run P w' = .ok [] (w'.setBlk r (.deferred none)) := by
      have hg : (getObj r).run P w' = .ok (.deferred (some [])) w' := by simp [getObj, Sem.run, h2]
      have hs := run_setObj_loop (P := P) h2 (fun _ _ _ => by simp) (.deferred none)
      simp [Instr.takeDeferred, hg, hs]
    obtain ⟨w'', s'', hst⟩ := marks_leave (P := P) fr cs hmode rs (w'.setBlk r (.deferred none)) hn'.2 (s.unmapped h1 h3 _) (fun q hq => by
      obtain ⟨q1, q2, q3⟩ := hr q (by simp [hq])
      exact ⟨q1, by rw [setBlk_other (fun e => hn'.1 (by rw [← e]; exact hq))]; exact q2, q3⟩)
    refine ⟨w'', s'', .head ?_ hst⟩
    have := step_collected (P := P) (fr := { fr with defers := (r :: rs).map (fun r => ({ target := .collected r, args := #[] } : Deferred)) }) (cs := cs) (w := w') (w' := w'.setBlk r (.deferred none)) (d := { target := .collected r, args := #[] }) (r := r)
      (ds := rs.map (fun r => { target := .collected r, args := #[] })) (calls := []) hmode rfl rfl htake
    simpa using this

def resSem (tmps : Array Value) : ResultVar → Sem Value
  | .tmp t => pure (tmps.getD t undef)
  | .cell a t => do loadVar t (← asAddr (tmps.getD a undef))
theorem results_eq (fn : Func) (tmps : Array Value) : results fn tmps = (do
    let vs ← fn.results.mapM (resSem tmps)
    pure (if h : vs.size = 1 then vs[0] else .tuple vs)) := by
  unfold results
  congr 1

theorem resSem_sound {P : Program} {e : Env} {h : Heap} {μ : Mu} {w : World} {tmps : Array Value} (hr : Rel μ h w) (hf : Fresh μ h) (hE : EnvR μ e tmps) {r : ResultVar} {v : Value} (hv : evResult P e h r = some v) :
    ∃ v', (resSem tmps r).run P w = .ok v' w ∧ VR μ v v' := by
  cases r with
  | tmp t =>
    simp only [evResult, Option.some.injEq] at hv
    subst hv
    exact ⟨tmps.getD t undef, rfl, hE t⟩
  | cell a t =>
    simp only [evResult] at hv
    have ha := hE a
    obtain ⟨v', hv', hvr⟩ := evLoad_sound (P := P) hv hr hf ha
    refine ⟨v', ?_, hvr⟩
    simp only [resSem]
    generalize tmps.getD a undef = u at ha hv' ⊢
    generalize e a = u0 at ha
    cases ha with
    | ptr hb => simpa [Instr.loadAt, Instr.sureAddr, asAddr] using hv'
    | _ => simp [Instr.loadAt, Instr.sureAddr] at hv'

theorem evResultList_sound {P : Program} {e : Env} {h : Heap} {μ : Mu} {w : World} {tmps : Array Value} (hr : Rel μ h w) (hf : Fresh μ h) (hE : EnvR μ e tmps) : ∀ (rs : List ResultVar) (l : List Value), evResultList P e h rs = some l →
    ∃ l', (rs.mapM (resSem tmps)).run P w = .ok l' w ∧ VRL μ l l'
  | [], l, h1 => by
    simp only [evResultList, Option.some.injEq] at h1
    subst h1
    exact ⟨[], rfl, .nil⟩
  | rv :: rs, l, h1 => by
    simp only [evResultList] at h1
    split at h1
    case h_2 => simp at h1
    case h_1 v hv =>
    obtain ⟨l0, hl0, rfl⟩ := Option.map_eq_some_iff.1 h1
    obtain ⟨l', hl', hvl⟩ := evResultList_sound hr hf hE rs l0 hl0
    obtain ⟨v', hv', hvr⟩ := resSem_sound (P := P) hr hf hE hv
    exact ⟨v' :: l', by simp [List.mapM_cons, hl', hv'], .cons hvr hvl⟩

theorem results_sound {P : Program} {e : Env} {h : Heap} {μ : Mu} {w : World} {tmps : Array Value} {fn : Func} {l : List Value} (hr : Rel μ h w) (hf : Fresh μ h) (hE : EnvR μ e tmps) (hl : evResultList P e h fn.results.toList = some l) :
    ∃ v', (results fn tmps).run P w = .ok v' w ∧ VR μ (packR l) v' := by
  obtain ⟨l', hl', hv⟩ := evResultList_sound (P := P) hr hf hE fn.results.toList l hl
  refine ⟨packR l', ?_, ?_⟩
  · rw [results_eq, Array.mapM_eq_mapM_toList]
    simp only [Sem.run_bind, Sem.run_map, hl', Result.andThen_ok, Sem.run_pure]
    match l' with
    | [] => simp [packR]
    | [v] => simp [packR]
    | v :: u :: r => simp [packR]
  · match l, l', hv with
    | _, _, .nil => exact .tuple .nil
    | _, _, .cons h1 .nil => exact h1
    | _, _, .cons h1 (.cons h2 t) => exact .tuple (.cons h1 (.cons h2 t))

theorem envOf_sound {μ : Mu} {args args' : List Value} (h : VRL μ args args') (n : Nat) : EnvR μ (envOf args) (args'.toArray ++ Array.replicate (n - args'.length) undef) := by
  intro t
  have hlen := h.length
  unfold envOf
  cases ht : args[t]? with
  | some v =>
    obtain ⟨v', hv', hr⟩ := h.get ht
    have hlt : t < args'.length := (List.getElem?_eq_some_iff.1 hv').1
    have e1 : (args'.toArray ++ Array.replicate (n - args'.length) undef).getD t undef = v' := by
      simp [Array.getElem?_append, hlt]
      have := (List.getElem?_eq_some_iff.1 hv').2
      exact this
    rw [e1]
    simpa [List.getD, ht] using hr
  | none =>
    have hge : args'.length ≤ t := by
      have := List.getElem?_eq_none_iff.1 ht; omega
    have e1 : (args'.toArray ++ Array.replicate (n - args'.length) undef).getD t undef = undef := by
      have : ¬ t < args'.length := by omega
      simp [Array.getElem?_append, this, Array.getElem?_replicate]
      split <;> rfl
    rw [e1]
    simp only [List.getD, ht, Option.getD_none]
    exact .tuple .nil

/-- A whole function. -/
theorem body_sound {P : Program} {rec : Option Nat → Code → Ev} (hrec : ∀ around c, CodeSound P around c (rec around c)) {f : FuncId} {fn : Func} (hfn : P.funcs[f]? = some fn) (hg : goodFn fn = true) : SimF P f (evBody P rec fn) := by
  intro μ h w args args' r h' hr hf ha he
  unfold evBody at he
  unfold goodFn at hg
  cases hb : fn.body with
  | none => simp [hb] at he
  | some c =>
  simp only [hb] at he hg
  intro cs
  let b : Frame := { (default : Frame) with fn := f, kind := .normal }
  let a0 : Act := { tmps := args'.toArray ++ Array.replicate (fn.ntmps - args'.toArray.size) undef, defers := [] }
  have henter : Frame.enter P f args'.toArray .normal = b.atR a0 [.code c] := by
    simp [Frame.enter, Frame.atR, hfn, hb, b, a0]
    rfl
  have hE0 : EnvR μ (envOf args) a0.tmps := by simpa [a0] using envOf_sound ha fn.ntmps
  have hsz : fn.ntmps ≤ a0.tmps.size := by simp [a0]; omega
  have main : ∀ x e1 h1, rec none c (envOf args) h = some (x, e1, h1) → Goes P w.heap.size μ h w a0.tmps.size (lone (Frame.enter P f args'.toArray .normal) cs w) b [] cs x e1 h1 := by
    intro x e1 h1 hc
    rw [henter]
    exact hrec none c _ _ _ _ _ hc μ w a0 b [] cs w.heap.size (.inl ⟨rfl, rfl⟩) hr hf hE0 (goodCode_mono hsz c hg) (.nil _ _ _ _) (Nat.le_refl _)
  -- the way out
  have out : ∀ x e1 h1, rec none c (envOf args) h = some (x, e1, h1) → x = .normal ∨ x = .ret → ∀ l, evResultList P e1 h1 fn.results.toList = some l →
      ∃ e w' fr, (∃ μ', Step μ μ' h h1 w w' ∧ RsRel μ' (.ok (packR l)) e) ∧ Comes P (lone (Frame.enter P f args'.toArray .normal) cs w) (lone fr cs w') e ∧ fr.fn = f ∧ fr.leaving P w' e := by
    intro x e1 h1 hc hx l hl
    obtain ⟨μ1, w1, a1, g1, g2, g3, g4, g5⟩ := main x e1 h1 hc
    obtain ⟨k1, hst⟩ : ∃ k1, Steps P (lone (Frame.enter P f args'.toArray .normal) cs w) (lone { b.atR a1 k1 with mode := .returning } cs w1) := by
      rcases hx with rfl | rfl
      · exact ⟨_, Steps.trans g5 (.one (stepR_end rfl))⟩
      · obtain ⟨k1, s⟩ := g5
        exact ⟨_, s.trans (.one (stepR_ret rfl))⟩
    obtain ⟨rs, hds, hnd, hrs⟩ := g4
    obtain ⟨w2, s2, hst2⟩ := marks_leave (P := P) { b.atR a1 k1 with mode := .returning } cs (by simp) rs w1 hnd g1 hrs
    have hst2' : Steps P (lone { b.atR a1 k1 with mode := .returning } cs w1) (lone { b.atR a1 k1 with mode := .returning, defers := [] } cs w2) := by
      rw [← hds] at hst2
      exact hst2
    obtain ⟨v', hv', hvr⟩ := results_sound (P := P) (w := w2) s2.rel s2.fresh g2 hl
    refine ⟨.returned v', w2, { b.atR a1 k1 with mode := .returning, defers := [] }, ⟨μ1, s2, hvr⟩, hst.trans hst2', rfl, rfl, rfl, rfl, fn, hfn, hv'⟩
  split at he
  · rename_i e1 h1 hc
    obtain ⟨l, hl, he⟩ := Option.map_eq_some_iff.1 he
    simp only [Prod.mk.injEq] at he
    obtain ⟨rfl, rfl⟩ := he
    exact out _ _ _ hc (.inl rfl) l hl
  · rename_i e1 h1 hc
    obtain ⟨l, hl, he⟩ := Option.map_eq_some_iff.1 he
    simp only [Prod.mk.injEq] at he
    obtain ⟨rfl, rfl⟩ := he
    exact out _ _ _ hc (.inr rfl) l hl
  · rename_i v e1 h1 hc
    simp only [Option.some.injEq, Prod.mk.injEq] at he
    obtain ⟨rfl, rfl⟩ := he
    obtain ⟨μ1, w1, a1, g1, g2, g3, g4, k1, v', hv', hst⟩ := main _ _ _ hc
    obtain ⟨rs, hds, hnd, hrs⟩ := g4
    obtain ⟨w2, s2, hst2⟩ := marks_leave (P := P) { b.atR a1 k1 with mode := .panicking [{ v := v', recovered := false }] } cs (by simp) rs w1 hnd g1 hrs
    rw [← hds] at hst2
    exact ⟨.panicked [{ v := v', recovered := false }], w2, _, ⟨μ1, s2, v', rfl, hv'⟩, hst.trans hst2, rfl, rfl, rfl, fn, hfn⟩
  · simp at he
end Go.Proofs.Ytfehhihllenjiaa
