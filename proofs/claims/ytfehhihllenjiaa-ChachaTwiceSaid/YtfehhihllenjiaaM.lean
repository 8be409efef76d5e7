/- The evaluator of code is sound: control, loops, ranges over functions. -/
import Derived.Test.YtfehhihllenjiaaL
set_option linter.all false
namespace Go.Proofs.Ytfehhihllenjiaa

/-- Regions that draw (shown elsewhere). -/
def DrawSound (P : Program) (calm : FuncId → Bool) (call : Value → Phi) : Prop :=
  ∀ id ops F S, drawOkF calm ops F = true → ∀ e h e' h', RunOk call P calm ops F S 0 ops.toList e h → evOps call P ops ops.toList e h = some (.normal, e', h') → ∀ μ w a b k cs B0, Rel μ h w → Fresh μ h → EnvR μ e a.tmps →
    ops.toList.all (goodOper a.tmps.size) = true → MarksOk B0 μ h w a.defers → B0 ≤ w.heap.size →
    Goes P B0 μ h w a.tmps.size (lone (b.atR a (.code (.region id ops true) :: k)) cs w) b k cs .normal e' h'

theorem drawOkF_nil {calm : FuncId → Bool} {ops : Array Oper} (h : drawOk calm ops = true) : drawOkF calm ops [] = true := by
  unfold drawOk at h
  unfold drawOkF
  simp only [Bool.and_eq_true] at h ⊢
  refine ⟨h.1, ?_⟩
  have h2 := h.2
  rw [List.all_eq_true] at h2 ⊢
  intro j hj
  have h3 := h2 j hj
  rw [List.all_eq_true] at h3 ⊢
  intro i hi
  have h4 := h3 i hi
  unfold pairOk at h4
  unfold pairOkF
  split at h4
  · rename_i oi oj h5 h6
    simp only [h5, h6, Bool.and_eq_true, Bool.or_eq_true] at h4 ⊢
    refine ⟨h4.1, ?_⟩
    rcases h4.2 with h7 | h7
    · exact .inl h7
    · exact .inr ⟨h7.2, .inl h7.1⟩
  · cases h4
theorem RunOk_nil {call : Value → Phi} {P : Program} {calm : FuncId → Bool} {all : Array Oper} {S : Nat → Prop} : ∀ (l : List Oper) (i : Nat) (e e' : Env) (h h' : Heap), evOps call P all l e h = some (.normal, e', h') → RunOk call P calm all [] S i l e h
  | [], _, _, _, _, _, _ => trivial
  | o :: l, i, e, e', h, h', he => by
    simp only [evOps] at he
    simp only [RunOk]
    split at he
    · rename_i hw
      rw [if_pos hw]
      split at he
      · rename_i v h1 hop
        rw [hop]
        exact ⟨fun hF => by simp at hF, RunOk_nil l (i + 1) _ _ _ _ he⟩
      · simp at he
      · simp at he
    · rename_i hw
      rw [if_neg hw]
      exact RunOk_nil l (i + 1) _ _ _ _ he
theorem drawE_spec {calm : FuncId → Bool} {call : Value → Phi} {P : Program} {ops : Array Oper} {e e' : Env} {h h' : Heap} {x : X} (he : drawE calm call P ops e h = some (x, e', h')) :
    x = .normal ∧ ∃ F S, drawOkF calm ops F = true ∧ RunOk call P calm ops F S 0 ops.toList e h ∧ evOps call P ops ops.toList e h = some (.normal, e', h') := by
  have norm : normalOnly (evOps call P ops ops.toList e h) = some (x, e', h') → x = .normal ∧ evOps call P ops ops.toList e h = some (.normal, e', h') := by
    intro hn
    unfold normalOnly at hn
    split at hn
    · rename_i e1 h1 hev
      simp only [Option.some.injEq, Prod.mk.injEq] at hn
      obtain ⟨rfl, rfl, rfl⟩ := hn
      exact ⟨rfl, hev⟩
    · cases hn
  unfold drawE at he
  split at he
  · rename_i hok
    obtain ⟨h1, h2⟩ := norm he
    exact ⟨h1, [], fun _ => False, drawOkF_nil hok, RunOk_nil _ _ _ _ _ _ h2, h2⟩
  · split at he
    · rename_i hF
      obtain ⟨F, S, h1, h2⟩ := hF
      obtain ⟨h3, h4⟩ := norm he
      exact ⟨h3, F, S, h1, h2, h4⟩
    · cases he

theorem run_getObj_loop {P : Program} {w : World} {l : Nat} {r : Loop} (h : w.heap[l]? = some (.loop r)) : (Instr.getLoop l).run P w = .ok r w := by
  simp [Instr.getLoop, getObj, Sem.run, Sem.run_bind', h]
theorem run_setObj_loop {P : Program} {w : World} {l : Nat} {r : Obj} (h : w.heap[l]? = some r) (hr : ∀ c e f, r ≠ .cells c e f) (o : Obj) : (setObj l o).run P w = .ok () (w.setBlk l o) := by
  cases r <;> first | exact absurd rfl (hr _ _ _) | (simp only [setObj, Sem.run, h]; rfl)

theorem Goes.of_steps {P : Program} {B0 : Nat} {μ : Mu} {h : Heap} {w : World} {n : Nat} {M M1 : Machine} {b : Frame} {k : List Item} {cs : List Frame} {x : X} {e' : Env} {h' : Heap} (s : Steps P M M1)
    (g : Goes P B0 μ h w n M1 b k cs x e' h') : Goes P B0 μ h w n M b k cs x e' h' := by
  obtain ⟨μ', w', a', g1, g2, g3, g4, g5⟩ := g
  exact ⟨μ', w', a', g1, g2, g3, g4, g5.of_steps s⟩

/-- What is left by an item that catches nothing. -/
theorem Arr.pass {P : Program} {M : Machine} {b : Frame} {it : Item} {k : List Item} {cs : List Frame} {μ : Mu} {x : X} {a : Act} {w : World} (hit : ∀ id, exitTo id (it :: k) = exitTo id k) (hx : ∀ y, x = y → y ≠ .normal)
    (h : Arr P M b (it :: k) cs μ x a w) : Arr P M b k cs μ x a w := by
  cases x with
  | normal => exact absurd rfl (hx _ rfl)
  | exit id => obtain ⟨k1, e, s⟩ := h; exact ⟨k1, e.trans (hit id), s⟩
  | ret => exact h
  | pan v => exact h

theorem iter_sound {P : Program} {around : Option Nat} {c : Code} {f : Ev} (hc : CodeSound P around c f) : ∀ (n : Nat) e h x e' h', iter f n e h = some (x, e', h') → ∀ μ w a b k cs B0, RoundR μ around b.roundOf → Rel μ h w → Fresh μ h → EnvR μ e a.tmps → goodCode a.tmps.size c = true → MarksOk B0 μ h w a.defers → B0 ≤ w.heap.size →
    Goes P B0 μ h w a.tmps.size (lone (b.atR a (.code c :: .inLoop c :: k)) cs w) b k cs x e' h'
  | 0, e, h, x, e', h', he, _, _, _, _, _, _, _, _, _, _, _, _, _, _ => by simp [iter] at he
  | n + 1, e, h, x, e', h', he, μ, w, a, b, k, cs, B0, hR, hr, hf, hE, hg, hm, hB => by
    simp only [iter] at he
    split at he
    · rename_i e1 h1 hfe
      obtain ⟨μ1, w1, a1, g1, g2, g3, g4, g5⟩ := hc e h _ _ _ hfe μ w a b (.inLoop c :: k) cs B0 hR hr hf hE hg hm hB
      obtain ⟨μ', w', a', k1, k2, k3, k4, k5⟩ := iter_sound hc n e1 h1 x e' h' he μ1 w1 a1 b k cs B0 (hR.mono g1.ext) g1.rel g1.fresh g2 (by rw [g3]; exact hg) g4 (Nat.le_trans hB g1.pres.size)
      exact ⟨μ', w', a', g1.trans hf k1, k2, by rw [k3, g3], k4, k5.of_steps (Steps.trans g5 (.one stepR_inLoop))⟩
    · rename_i hn
      obtain ⟨μ1, w1, a1, g1, g2, g3, g4, g5⟩ := hc e h _ _ _ he μ w a b (.inLoop c :: k) cs B0 hR hr hf hE hg hm hB
      refine ⟨μ1, w1, a1, g1, g2, g3, g4, g5.pass (fun id => by simp [exitTo]) ?_⟩
      rintro y rfl rfl
      exact hn _ _ he

theorem range_sound {P : Program} {call : Value → Phi} (hcall : CallSound P call) (around : Option Nat) (f : Operand) (ps : Array Tmp) (assign body : Code) : CodeSound P around (.rangeFunc f ps assign body) (evRange call around f ps assign body) := by
  intro e h x e' h' he μ w a b k cs B0 hR hr hf hE hg hm hB
  simp only [goodCode, Bool.and_eq_true] at hg
  obtain ⟨⟨⟨hgf, hgp⟩, hga⟩, hgb⟩ := hg
  unfold evRange at he
  split at he
  case isFalse => simp at he
  case isTrue hcnd =>
  obtain ⟨hfn, hao⟩ := hcnd
  -- the record
  obtain ⟨mark, wD, hmark⟩ : ∃ mark wD, (∀ D : World, D = wD → Step μ μ h h w D ∧ MarksOk B0 μ h D (mark ++ a.defers)) ∧ ∃ dl, (Instr.enterLoop b.fn a.tmps ps assign body b.roundOf).run P w =
      .ok (wD.heap.size, mark) (wD.alloc (.loop { state := .ready, pending := none, fn := b.fn, tmps := a.tmps, params := ps, assign := assign, body := body, defers := dl })) := by
    rcases hR with ⟨h1, h2⟩ | ⟨la, m, h1, h2, h3⟩
    · refine ⟨[{ target := .collected w.heap.size, args := #[] }], w.alloc (.deferred (some [])), ?_, w.heap.size, ?_⟩
      · rintro D rfl
        have s := alloc_none hr hf (.deferred (some []))
        refine ⟨s, ?_⟩
        obtain ⟨rs, hd, hn, hrs⟩ := hm.step hf s
        obtain ⟨rs0, hd0, hn0, hrs0⟩ := hm
        refine ⟨w.heap.size :: rs, by simp [hd], ?_, ?_⟩
        · refine List.nodup_cons.2 ⟨fun hmem => ?_, hn⟩
          have hmap : rs = rs0 := by
            have hinj : Function.Injective (fun r : Nat => ({ target := .collected r, args := #[] } : Deferred)) := fun x y hxy => by
              simp only [Deferred.mk.injEq, Target.collected.injEq, and_true] at hxy; exact hxy
            exact (List.map_inj_right (f := fun r : Nat => ({ target := .collected r, args := #[] } : Deferred)) (fun x y hxy => hinj hxy)).1 (hd.symm.trans hd0)
          subst hmap
          have := (Array.getElem?_eq_some_iff.1 (hrs0 _ hmem).2.1).1
          omega
        · intro r hmem
          rcases List.mem_cons.1 hmem with rfl | hmem
          · exact ⟨hB, alloc_get _ _, fun b' m' hb' hl' => by have := hr.lt hb' hl'; omega⟩
          · exact hrs r hmem
      · rw [h2]
        simp [Instr.enterLoop]
    · refine ⟨[], w, ?_, ?_⟩
      · rintro D rfl; exact ⟨.refl hr hf, by simpa using hm⟩
      · rw [h1] at hao
        simp only [aroundOk] at hao
        split at hao
        · rename_i L hL
          obtain ⟨_, r, hr1, _⟩ := hr.obj la m _ h2 hL
          refine ⟨r.defers, ?_⟩
          rw [h3]
          simp [Instr.enterLoop, run_getObj_loop hr1]
        · simp at hao
  obtain ⟨hDm, dl, hent⟩ := hmark
  obtain ⟨sD, mD⟩ := hDm wD rfl
  let L0 : ALoop := ⟨.ready, none, e, ps, assign, body⟩
  let m : Loc := ⟨wD.heap.size, 0, 0, 0, 0, .rw⟩
  let r0 : Loop := { state := .ready, pending := none, fn := b.fn, tmps := a.tmps, params := ps, assign := assign, body := body, defers := dl }
  have hx : Ext μ (upd μ h.nx (some m)) := fun b' m' hb' => by
    have := hf.lt hb'
    rw [upd_other _ _ (by omega)]; exact hb'
  have sL := Step.alloc sD.rel hf m (.loop L0) (.loop r0) rfl ⟨rfl, r0, alloc_get _ _, rfl, rfl, hE.mono hx, rfl, rfl, rfl, hga, hgb, hgp⟩
  have sDL := sD.trans hf sL
  have mDL := mD.step hf sL
  have hfv := ev_sound hE hgf
  generalize hev : ev e f = fv at he hfn hfv
  generalize hav : a.eval f = fv' at hfv
  have hcs : ∀ r2 h2, call fv [.func (.yield h.nx) #[] #[]] (h.push (.loop L0)) = some (r2, h2) → ∃ g as, ∃ d, (resolve a.eval (rangeCall f wD.heap.size) 0).run P (wD.alloc (.loop r0)) = .ok d (wD.alloc (.loop r0)) ∧
      (invoke d.target d.args).run P (wD.alloc (.loop r0)) = .ok (.enter g as) (wD.alloc (.loop r0)) ∧ ∀ (c : Frame) cs, ∃ μ' w', Step (upd μ h.nx (some m)) μ' (h.push (.loop L0)) h2 (wD.alloc (.loop r0)) w' ∧
        CallRes P μ' (Frame.enter P g as .normal) c cs (wD.alloc (.loop r0)) w' r2 := by
    intro r2 h2 hc
    have hy : VR (upd μ h.nx (some m)) (.func (.yield h.nx) #[] #[]) (.func (.yield wD.heap.size) #[] #[]) := .yield (m := m) (upd_same _ _ _)
    obtain ⟨nx, fr, hrun, hnx, hgo⟩ := hcall _ _ _ _ _ hc _ (wD.alloc (.loop r0)) fv' [.func (.yield wD.heap.size) #[] #[]] sL.rel sL.fresh (hfv.mono hx) (.single hy)
    rcases hnx with ⟨g, as, rfl, rfl⟩ | ⟨hno, _⟩
    · cases hfv with
      | func fn hfn' v1 v2 =>
        rename_i first first' cap cap'
        refine ⟨g, as, { target := .fn fn cap', args := first' ++ #[.func (.yield wD.heap.size) #[] #[]] }, ?_, ?_, hgo⟩
        · simp only [resolve, rangeCall, hav, Deferred.ofValue]; simp [Act.eval]
        · simpa [Deferred.ofValue] using hrun
      | _ => simp [isFunc] at hfn
    · rw [hno] at hfn; simp at hfn
  have fin : ∀ h2 L v, call fv [.func (.yield h.nx) #[] #[]] (h.push (.loop L0)) = some (.ok v, h2) → h2.obj h.nx = some (.loop L) → L.state ≠ .busy →
      ∃ μ' w', Step μ μ' h (h2.put h.nx (some (.loop { L with state := .exhausted }))) w w' ∧ MarksOk B0 μ' (h2.put h.nx (some (.loop { L with state := .exhausted }))) w' (mark ++ a.defers) ∧
        Steps P (lone (b.atR a (.code (.rangeFunc f ps assign body) :: k)) cs w) (lone (b.atR { a with defers := mark ++ a.defers } ((L.pending.map Item.code).toList ++ k)) cs w') := by
    intro h2 L v hc hL hbusy
    obtain ⟨g, as, d, hres, hinv, hgo⟩ := hcs _ _ hc
    obtain ⟨μ2, w2, s2, v', hv', hst⟩ := hgo (b.atR { a with defers := mark ++ a.defers } (.inRangeFunc wD.heap.size :: k)) cs
    rw [finish_atR_inRangeFunc] at hst
    have hμ2 : μ2 h.nx = some m := s2.ext _ _ (upd_same _ _ _)
    obtain ⟨hmk, r2, hr2, hs2, hp2, hE2, h3, h4, h5, h6, h7, h8⟩ := s2.rel.obj h.nx m _ hμ2 hL
    have hend : (Instr.endLoop wD.heap.size).run P w2 = .ok L.pending (w2.setBlk wD.heap.size (.loop { r2 with state := .exhausted })) := by
      have hnb : ¬ r2.state = .busy := by rw [hs2]; exact hbusy
      have hr2' : w2.heap[wD.heap.size]? = some (.loop r2) := hr2
      have hgo2 := run_getObj_loop (P := P) hr2'
      have hset := run_setObj_loop (P := P) hr2' (fun _ _ _ => by simp) (.loop { r2 with state := .exhausted })
      simp [Instr.endLoop, hgo2, hnb, hp2]
      rw [hp2] at hset
      simp [hset]
    have s3 := Step.put s2.rel s2.fresh hμ2 (by simp [hL]) (by simp [m]) (.loop { L with state := .exhausted }) (.loop { r2 with state := .exhausted })
      ⟨rfl, { r2 with state := .exhausted }, setBlk_get hr2, rfl, hp2, hE2, h3, h4, h5, h6, h7, h8⟩
    refine ⟨μ2, _, (sDL.trans hf s2).trans hf s3, (mDL.step sL.fresh s2).step s2.fresh s3, ?_⟩
    exact .head (stepR_rangeFunc hent hres hinv) (hst.trans (.one (stepR_endRangeFunc hend)))
  split at he
  · rename_i v h2 hc
    split at he
    case h_2 => simp at he
    case h_1 L hL =>
    split at he
    · simp at he
    · rename_i hbusy
      obtain ⟨μ', w', s, hmk, hst⟩ := fin h2 L v hc hL hbusy
      split at he
      · rename_i hp
        simp only [Option.some.injEq, Prod.mk.injEq] at he
        obtain ⟨rfl, rfl, rfl⟩ := he
        rw [hp] at hst
        exact ⟨μ', w', { a with defers := mark ++ a.defers }, s, hE.mono s.ext, rfl, hmk, hst⟩
      · rename_i id hp
        simp only [Option.some.injEq, Prod.mk.injEq] at he
        obtain ⟨rfl, rfl, rfl⟩ := he
        rw [hp] at hst
        exact ⟨μ', w', { a with defers := mark ++ a.defers }, s, hE.mono s.ext, rfl, hmk, k, rfl, hst⟩
      · rename_i hp
        simp only [Option.some.injEq, Prod.mk.injEq] at he
        obtain ⟨rfl, rfl, rfl⟩ := he
        rw [hp] at hst
        exact ⟨μ', w', { a with defers := mark ++ a.defers }, s, hE.mono s.ext, rfl, hmk, k, hst⟩
      · simp at he
  · rename_i v h2 hc
    simp only [Option.some.injEq, Prod.mk.injEq] at he
    obtain ⟨rfl, rfl, rfl⟩ := he
    obtain ⟨g, as, d, hres, hinv, hgo⟩ := hcs _ _ hc
    obtain ⟨μ2, w2, s2, v', hv', hst⟩ := hgo (b.atR { a with defers := mark ++ a.defers } (.inRangeFunc wD.heap.size :: k)) cs
    exact ⟨μ2, w2, { a with defers := mark ++ a.defers }, sDL.trans hf s2, hE.mono (sDL.trans hf s2).ext, rfl, mDL.step sL.fresh s2, _, v', hv', .head (stepR_rangeFunc hent hres hinv) hst⟩
  · simp at he

theorem evC_sound {cfg : Cfg} (hP : ProgOk cfg.P) {call : Value → Phi} (hcall : CallSound cfg.P call) (hdraw : DrawSound cfg.P cfg.calm call) (around : Option Nat) : ∀ c, CodeSound cfg.P around c (evC cfg call around c)
  | .skip => by
    intro e h x e' h' he μ w a b k cs B0 hR hr hf hE hg hm hB
    simp only [evC, Option.some.injEq, Prod.mk.injEq] at he
    obtain ⟨rfl, rfl, rfl⟩ := he
    exact ⟨μ, w, a, .refl hr hf, hE, rfl, hm, .one stepR_skip⟩
  | .region id ops draw => by
    intro e h x e' h' he μ w a b k cs B0 hR hr hf hE hg hm hB
    simp only [evC] at he
    cases draw with
    | true =>
      simp only [if_true] at he
      obtain ⟨rfl, F, S, hok, hrun, hev⟩ := drawE_spec he
      exact hdraw id ops F S hok e h _ _ hrun hev μ w a b k cs B0 hr hf hE hg hm hB
    | false =>
      simp only [Bool.false_eq_true, if_false] at he
      have his : ((List.range ops.size).map fun i => ops[i]?) = ops.toList.map some := by
        apply List.ext_getElem?
        intro i
        simp only [List.getElem?_map, List.getElem?_range]
        by_cases hi : i < ops.size
        · simp [hi]
        · simp [hi]
      exact (evOps_sound hP hcall ops.toList (List.range ops.size) his e h x e' h' he μ w a b k cs B0 hr hf hE hg hm hB).of_steps (.one stepR_region)
  | .seq c1 c2 => by
    intro e h x e' h' he μ w a b k cs B0 hR hr hf hE hg hm hB
    simp only [goodCode, Bool.and_eq_true] at hg
    simp only [evC] at he
    split at he
    · rename_i e1 h1 h1e
      obtain ⟨μ1, w1, a1, g1, g2, g3, g4, g5⟩ := evC_sound hP hcall hdraw around c1 e h _ _ _ h1e μ w a b (.code c2 :: k) cs B0 hR hr hf hE hg.1 hm hB
      obtain ⟨μ', w', a', k1, k2, k3, k4, k5⟩ := evC_sound hP hcall hdraw around c2 e1 h1 _ _ _ he μ1 w1 a1 b k cs B0 (hR.mono g1.ext) g1.rel g1.fresh g2 (by rw [g3]; exact hg.2) g4 (Nat.le_trans hB g1.pres.size)
      exact ⟨μ', w', a', g1.trans hf k1, k2, by rw [k3, g3], k4, k5.of_steps (.head stepR_seq g5)⟩
    · rename_i hn
      obtain ⟨μ1, w1, a1, g1, g2, g3, g4, g5⟩ := evC_sound hP hcall hdraw around c1 e h _ _ _ he μ w a b (.code c2 :: k) cs B0 hR hr hf hE hg.1 hm hB
      refine ⟨μ1, w1, a1, g1, g2, g3, g4, (g5.pass (fun id => by simp [exitTo]) ?_).of_steps (.one stepR_seq)⟩
      rintro y rfl rfl
      exact hn _ _ he
  | .cond c c1 c2 => by
    intro e h x e' h' he μ w a b k cs B0 hR hr hf hE hg hm hB
    simp only [goodCode, Bool.and_eq_true] at hg
    simp only [evC] at he
    have hc := ev_sound hE hg.1.1
    split at he
    · rename_i hb
      rw [hb] at hc
      have hb' : a.eval c = .bool true := by generalize a.eval c = v at hc; cases hc; rfl
      exact (evC_sound hP hcall hdraw around c1 e h _ _ _ he μ w a b k cs B0 hR hr hf hE hg.1.2 hm hB).of_steps (.one (by simpa using stepR_cond (x := c1) (y := c2) hb'))
    · rename_i hb
      rw [hb] at hc
      have hb' : a.eval c = .bool false := by generalize a.eval c = v at hc; cases hc; rfl
      exact (evC_sound hP hcall hdraw around c2 e h _ _ _ he μ w a b k cs B0 hR hr hf hE hg.2 hm hB).of_steps (.one (by simpa using stepR_cond (x := c1) (y := c2) hb'))
    · simp at he
  | .block id c => by
    intro e h x e' h' he μ w a b k cs B0 hR hr hf hE hg hm hB
    simp only [goodCode] at hg
    simp only [evC] at he
    split at he
    · rename_i i e1 h1 h1e
      obtain ⟨μ1, w1, a1, g1, g2, g3, g4, k1, g5, g6⟩ := evC_sound hP hcall hdraw around c e h _ _ _ h1e μ w a b (.inBlock id :: k) cs B0 hR hr hf hE hg hm hB
      split at he
      · rename_i hid
        subst hid
        simp only [Option.some.injEq, Prod.mk.injEq] at he
        obtain ⟨rfl, rfl, rfl⟩ := he
        refine ⟨μ1, w1, a1, g1, g2, g3, g4, ?_⟩
        have e1 : exitTo i k1 = some k := by rw [g5]; simp [exitTo]
        exact .head stepR_block (g6.trans (.one (stepR_exit e1)))
      · rename_i hid
        simp only [Option.some.injEq, Prod.mk.injEq] at he
        obtain ⟨rfl, rfl, rfl⟩ := he
        refine ⟨μ1, w1, a1, g1, g2, g3, g4, k1, ?_, .head stepR_block g6⟩
        rw [g5]
        have : (id == i) = false := by simp; exact fun h => hid h.symm
        simp [exitTo, this]
    · rename_i hn
      obtain ⟨μ1, w1, a1, g1, g2, g3, g4, g5⟩ := evC_sound hP hcall hdraw around c e h _ _ _ he μ w a b (.inBlock id :: k) cs B0 hR hr hf hE hg hm hB
      refine ⟨μ1, w1, a1, g1, g2, g3, g4, ?_⟩
      cases x with
      | normal => exact .head stepR_block (Steps.trans g5 (.one stepR_inBlock))
      | exit i => exact absurd he (hn _ _ _)
      | ret => exact Arr.of_steps (.one stepR_block) g5
      | pan v => exact Arr.of_steps (.one stepR_block) g5
  | .loop c => by
    intro e h x e' h' he μ w a b k cs B0 hR hr hf hE hg hm hB
    exact (iter_sound (evC_sound hP hcall hdraw around c) cfg.R e h x e' h' he μ w a b k cs B0 hR hr hf hE hg hm hB).of_steps (.one stepR_loop)
  | .rangeFunc f ps assign body => range_sound hcall around f ps assign body
  | .exit id => by
    intro e h x e' h' he μ w a b k cs B0 hR hr hf hE hg hm hB
    simp only [evC, Option.some.injEq, Prod.mk.injEq] at he
    obtain ⟨rfl, rfl, rfl⟩ := he
    exact ⟨μ, w, a, .refl hr hf, hE, rfl, hm, k, rfl, .refl _ _⟩
  | .ret => by
    intro e h x e' h' he μ w a b k cs B0 hR hr hf hE hg hm hB
    simp only [evC, Option.some.injEq, Prod.mk.injEq] at he
    obtain ⟨rfl, rfl, rfl⟩ := he
    exact ⟨μ, w, a, .refl hr hf, hE, rfl, hm, k, .refl _ _⟩
  | .scope _ => by intro e h x e' h' he; simp [evC] at he
  | .label _ => by intro e h x e' h' he; simp [evC] at he
  | .goto _ => by intro e h x e' h' he; simp [evC] at he
  | .refuse _ => by intro e h x e' h' he; simp [evC] at he
end Go.Proofs.Ytfehhihllenjiaa
