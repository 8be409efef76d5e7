/- Rounds, calls, and the evaluator of a whole program. -/
import Derived.Test.YtfehhihllenjiaaN
set_option linter.all false
namespace Go.Proofs.Ytfehhihllenjiaa

theorem bindE_sound {μ : Mu} : ∀ (ts : List Tmp) (as as' : List Value) (e : Env) (tmps : Array Value), EnvR μ e tmps → VRL μ as as' → (∀ t ∈ ts, t < tmps.size) →
    EnvR μ (bindE e ts as) ((ts.zip as').foldl (fun tmps (p : Tmp × Value) => tmps.setIfInBounds p.1 p.2) tmps) ∧ ((ts.zip as').foldl (fun tmps (p : Tmp × Value) => tmps.setIfInBounds p.1 p.2) tmps).size = tmps.size
  | [], as, as', e, tmps, hE, _, _ => by simp [bindE]; exact hE
  | t :: ts, [], as', e, tmps, hE, h, _ => by cases h; simp [bindE]; exact hE
  | t :: ts, a :: as, _, e, tmps, hE, .cons hv hl, ht => by
    have hE1 := hE.put (ht t (by simp)) hv
    have := bindE_sound ts as _ (upd e t a) (tmps.setIfInBounds t _) hE1 hl (fun x hx => by simpa using ht x (by simp [hx]))
    simpa [bindE] using this

theorem round_sound {P : Program} {rec : Option Nat → Code → Ev} (hrec : ∀ around c, CodeSound P around c (rec around c)) {l : Nat} {args : List Value} {h h' : Heap} {r : Rs} (he : evRound rec l args h = some (r, h'))
    {μ : Mu} {w : World} {m : Loc} {args' : List Value} (hr : Rel μ h w) (hf : Fresh μ h) (hl : μ l = some m) (ha : VRL μ args args') :
    ∃ g ts x y, (Instr.yield m.B args'.toArray).run P w = .ok (.round m.B g ts x y) w ∧ ∀ (c : Frame) cs, ∃ μ' w' v', r = .ok v' ∧ Step μ μ' h h' w w' ∧ VR μ' v' v' ∧
      Steps P (lone (Frame.round m.B g ts x y .normal) (c :: cs) w) (lone (c.finish v') cs w') := by
  unfold evRound at he
  split at he
  case h_2 => simp at he
  case h_1 L hL =>
  obtain ⟨hmk, r0, hr0, hs0, hp0, hE0, q3, q4, q5, q6, q7, q8⟩ := hr.obj l m _ hl hL
  split at he
  case isFalse => simp at he
  case isTrue hcnd =>
  obtain ⟨hready, hlen⟩ := hcnd
  have hal := ha.length
  let ts0 := (L.params.toList.zip args').foldl (fun tmps (p : Tmp × Value) => tmps.setIfInBounds p.1 p.2) r0.tmps
  obtain ⟨hE1, hsz1⟩ := bindE_sound (μ := μ) L.params.toList args args' L.tmps r0.tmps hE0 ha (fun t ht => by simpa using List.all_eq_true.1 q8 t ht)
  refine ⟨r0.fn, ts0, r0.assign, r0.body, ?_, ?_⟩
  · have hg := run_getObj_loop (P := P) hr0
    have hn : args'.length = r0.params.size := by rw [q3]; omega
    have hz : ((r0.params.zip args'.toArray).foldl (fun tmps (x : Tmp × Value) => tmps.setIfInBounds x.1 x.2) r0.tmps) = ts0 := by
      rw [← Array.foldl_toList, Array.toList_zip, q3]
    simp only [Instr.yield, Sem.run_bind, hg, Result.andThen_ok, List.size_toArray, hn, ne_eq, not_true_eq_false, if_false, Sem.run_pure]
    exact congrArg (fun q => Result.ok (Next.round m.B r0.fn q r0.assign r0.body) w) hz
  · intro c cs
    let b : Frame := { (default : Frame) with fn := r0.fn, kind := .normal, roundOf := some m.B }
    let a0 : Act := { tmps := ts0, defers := [] }
    have hb0 : Frame.round m.B r0.fn ts0 r0.assign r0.body .normal = b.atR a0 [.code r0.assign, .beginRound, .code r0.body] := by
      simp [Frame.round, Frame.atR, b, a0]
    have hRR : ∀ μ', Ext μ μ' → RoundR μ' (some l) b.roundOf := fun μ' hx => .inr ⟨l, m, rfl, hx _ _ hl, rfl⟩
    split at he
    case h_2 => simp at he
    case h_1 e1 h1 hassign =>
    have hga : goodCode a0.tmps.size L.assign = true := by simp only [a0, ts0, hsz1]; exact q6
    have hgb : goodCode a0.tmps.size L.body = true := by simp only [a0, ts0, hsz1]; exact q7
    obtain ⟨μ1, w1, a1, g1, g2, g3, g4, g5⟩ := hrec (some l) L.assign _ _ _ _ _ hassign μ w a0 b [.beginRound, .code r0.body] (c :: cs) w.heap.size (hRR μ (.refl _)) hr hf hE1 hga (.nil _ _ _ _) (Nat.le_refl _)
    split at he
    case h_2 => simp at he
    case h_1 L1 hL1 =>
    split at he
    case isFalse => simp at he
    case isTrue hready1 =>
    split at he
    case h_2 => simp at he
    case h_1 x e2 h2 hbody =>
    have hl1 := g1.ext _ _ hl
    obtain ⟨_, r1, hr1, hs1, hp1, hEr1, t3, t4, t5, t6, t7, t8⟩ := g1.rel.obj l m _ hl1 hL1
    have hbegin : (Instr.beginRound m.B).run P w1 = .ok () (w1.setBlk m.B (.loop { r1 with state := .busy })) := by
      have hg := run_getObj_loop (P := P) hr1
      have hset := run_setObj_loop (P := P) hr1 (fun _ _ _ => by simp) (.loop { r1 with state := .busy })
      have hst : r1.state = .ready := by rw [hs1]; exact hready1
      simp only [Instr.beginRound, Sem.run_bind, hg, Result.andThen_ok, hset, hst]
      rfl
    have sb := Step.put g1.rel g1.fresh hl1 (by simp [hL1]) (by rw [hmk]; simp) (.loop { L1 with state := .busy }) (.loop { r1 with state := .busy }) ⟨hmk, { r1 with state := .busy }, setBlk_get hr1, rfl, hp1, hEr1, t3, t4, t5, t6, t7, t8⟩
    obtain ⟨μ2, w2, a2, k1, k2, k3, k4, k5⟩ := hrec (some l) L.body _ _ _ _ _ hbody μ1 _ a1 b [] (c :: cs) w.heap.size (hRR μ1 g1.ext) sb.rel sb.fresh g2 (by rw [g3]; exact hgb) (g4.step g1.fresh sb)
      (by have := g1.pres.size; have := sb.pres.size; omega)
    have hsteps : Steps P (lone (Frame.round m.B r0.fn ts0 r0.assign r0.body .normal) (c :: cs) w) (lone (b.atR a1 [.code r0.body]) (c :: cs) (w1.setBlk m.B (.loop { r1 with state := .busy }))) := by
      rw [hb0, q4]
      exact Steps.trans g5 (.one (stepR_beginRound rfl hbegin))
    have hsteps : Steps P (lone (Frame.round m.B r0.fn ts0 r0.assign r0.body .normal) (c :: cs) w) (lone (b.atR a1 [.code L.body]) (c :: cs) (w1.setBlk m.B (.loop { r1 with state := .busy }))) := by
      rw [← q5]; exact hsteps
    have s12 : Step μ μ2 h h2 w w2 := (g1.trans hf sb).trans hf k1
    have hl2 : μ2 l = some m := s12.ext _ _ hl
    split at he
    case h_2 => simp at he
    case h_1 L2 hL2 =>
    obtain ⟨_, r2, hr2, hs2, hp2, hEr2, u3, u4, u5, u6, u7, u8⟩ := s12.rel.obj l m _ hl2 hL2
    have hendr : ∀ jump : Option Code, (Instr.endRound m.B jump).run P w2 = .ok (.bool jump.isNone) (w2.setBlk m.B (.loop { r2 with state := if jump.isNone then .ready else .done, pending := jump })) := by
      intro jump
      have hg := run_getObj_loop (P := P) hr2
      have hset := run_setObj_loop (P := P) hr2 (fun _ _ _ => by simp) (.loop { r2 with state := if jump.isNone then .ready else .done, pending := jump })
      simp only [Instr.endRound, Sem.run_bind, hg, Result.andThen_ok, hset]
      rfl
    have sp : ∀ (st : LoopState) (pd : Option Code), Step μ μ2 h (h2.put l (some (.loop { L2 with state := st, pending := pd }))) w (w2.setBlk m.B (.loop { r2 with state := st, pending := pd })) := fun st pd =>
      s12.trans hf (Step.put s12.rel s12.fresh hl2 (by simp [hL2]) (by rw [hmk]; simp) (.loop { L2 with state := st, pending := pd }) (.loop { r2 with state := st, pending := pd }) ⟨hmk, { r2 with state := st, pending := pd }, setBlk_get hr2, rfl, rfl, hEr2, u3, u4, u5, u6, u7, u8⟩)
    split at he
    · simp only [Option.some.injEq, Prod.mk.injEq] at he
      obtain ⟨rfl, rfl⟩ := he
      exact ⟨μ2, _, .bool true, rfl, sp .ready none, .bool _, (hsteps.trans k5).trans (.one (stepR_round_end rfl rfl (hendr none)))⟩
    · simp only [Option.some.injEq, Prod.mk.injEq] at he
      obtain ⟨rfl, rfl⟩ := he
      obtain ⟨k1', hk, hs⟩ := k5
      exact ⟨μ2, _, .bool false, rfl, sp .done (some (.exit _)), .bool _, (hsteps.trans hs).trans (.one (stepR_round_exit rfl rfl (by rw [hk]; rfl) (hendr (some (.exit _)))))⟩
    · simp only [Option.some.injEq, Prod.mk.injEq] at he
      obtain ⟨rfl, rfl⟩ := he
      obtain ⟨k1', hs⟩ := k5
      exact ⟨μ2, _, .bool false, rfl, sp .done (some .ret), .bool _, (hsteps.trans hs).trans (.one (stepR_round_ret rfl rfl (hendr (some .ret))))⟩
    · simp at he

theorem run_callFunc {P : Program} {f : FuncId} {fn : Func} (hfn : P.funcs[f]? = some fn) (h1 : (fn.name == "runtime.NumGoroutine") = false) (h2 : fn.body.isNone = false) (args : Array Value) (w : World) : (callFunc f args).run P w = .ok (.enter f args) w := by
  simp only [callFunc, Sem.run_bind, run_program, Result.andThen_ok, hfn, h1, h2, Bool.false_eq_true, if_false]
  rfl

theorem SimF.call {P : Program} {f : FuncId} {φ : Phi} (hs : SimF P f φ) {μ : Mu} {h h' : Heap} {w : World} {args args' : List Value} {r : Rs} (hr : Rel μ h w) (hf : Fresh μ h) (ha : VRL μ args args') (he : φ args h = some (r, h')) (c : Frame) (cs : List Frame) :
    ∃ μ' w', Step μ μ' h h' w w' ∧ CallRes P μ' (Frame.enter P f args'.toArray .normal) c cs w w' r := by
  obtain ⟨e, w', fr, ⟨μ', s, hrel⟩, hcomes, hfn, hleave⟩ := hs μ h w args args' r h' hr hf ha he (c :: cs)
  refine ⟨μ', w', s, ?_⟩
  cases r with
  | ok v =>
    cases e with
    | returned v' => exact ⟨v', hrel, Steps.trans hcomes (.one (step_leave_returned hleave))⟩
    | panicked ch => exact hrel.elim
    | outgrown => exact hrel.elim
  | pan v =>
    cases e with
    | returned v' => exact hrel.elim
    | panicked ch =>
      obtain ⟨v', rfl, hv⟩ := hrel
      exact ⟨v', hv, Steps.trans hcomes (.one (step_leave_panicked hleave))⟩
    | outgrown => exact hrel.elim

theorem isoPhi_spec {φ : Phi} {args : List Value} {h h' : Heap} {r : Rs} (he : isoPhi φ args h = some (r, h')) :
    args.all (closedV 8) = true ∧ h' = h ∧ ∃ v h1, r = .ok v ∧ closedV 8 v = true ∧ φ args ⟨fun _ => none, 0⟩ = some (.ok v, h1) := by
  unfold isoPhi at he
  split at he
  case isFalse => cases he
  case isTrue hcl =>
  split at he
  case h_2 => cases he
  case h_1 v h1 hφ =>
  split at he
  case isFalse => cases he
  case isTrue hv =>
  simp only [Option.some.injEq, Prod.mk.injEq] at he
  obtain ⟨rfl, rfl⟩ := he
  exact ⟨hcl, rfl, v, h1, rfl, hv, hφ⟩
theorem SimF.iso {P : Program} {f : FuncId} {φ : Phi} (hs : SimF P f φ) : SimF P f (isoPhi φ) := by
  intro μ h w args args' r h' hr hf ha he
  obtain ⟨hcl, rfl, v, h1, rfl, hv, hφ⟩ := isoPhi_spec he
  have hargs : args' = args := VRL.closed_inv (fun a b hc hab => VR.closed_inv 8 a b hc hab) hcl ha
  subst hargs
  have h0 := hs (fun _ => none) ⟨fun _ => none, 0⟩ w args' args' _ h1 ⟨fun b m o hb => (by cases hb), fun b b' m m' hb => (by cases hb)⟩ (fun _ _ => rfl) (VRL.closed (fun a hc => VR.closed 8 a hc) args' hcl) hφ
  refine h0.mono fun e w' ⟨μ', st, hrel⟩ => ?_
  have hblk : ∀ B, B < w.heap.size → w'.heap[B]? = w.heap[B]? := fun B hB => st.pres.block B hB fun b m hb => (by cases hb)
  refine ⟨μ, ⟨.refl _, fun b m hb => .inl hb, fun b _ hl => hl, ⟨fun b m o hb ho => (hr.obj b m o hb ho).of_heap (hblk _ (hr.lt hb (by simp [ho]))), hr.inj⟩, hf, Nat.le_refl _, fun b h2 h3 => absurd h2 (Nat.not_le.2 h3),
    ⟨st.pres.os, st.pres.tape, st.pres.output, st.pres.size, fun B hB _ => hblk B hB⟩⟩, ?_⟩
  cases e with
  | returned v' =>
    have hvv : v' = v := VR.closed_inv 8 v v' hv hrel
    subst hvv
    exact VR.closed 8 v' hv
  | panicked ch => exact hrel.elim
  | outgrown => exact hrel.elim

theorem evCall_sound {cfg : Cfg} (hC : CfgOk cfg) {rec : Option Nat → Code → Ev} (hrec : ∀ around c, CodeSound cfg.P around c (rec around c)) : CallSound cfg.P (evCall cfg rec) := by
  intro f args h r h' he μ w f' args' hr hf hfv ha
  unfold evCall at he
  split at he
  · rename_i k first cap
    cases hfv with
    | func _ hfn v1 v2 =>
    rename_i first' cap'
    have hargs : VRL μ (first.toList ++ args ++ cap.toList) (first'.toList ++ args' ++ cap'.toList) := (v1.append ha).append v2
    have harr : (first'.toList ++ args' ++ cap'.toList).toArray = first' ++ args'.toArray ++ cap' := by apply Array.toList_inj.1; simp
    have build : ∀ φ, SimF cfg.P k φ → (∃ fn, cfg.P.funcs[k]? = some fn ∧ (fn.name == "runtime.NumGoroutine") = false ∧ fn.body.isNone = false) → φ (first.toList ++ args ++ cap.toList) h = some (r, h') →
        ∃ nx fr, (do let d ← Deferred.ofValue (.func (.func k) first' cap') args'.toArray; invoke d.target d.args : Sem Next).run cfg.P w = .ok nx w ∧
      ((∃ g as, nx = .enter g as ∧ fr = Frame.enter cfg.P g as .normal) ∨ isFunc (.func (.func k) first cap) = false ∧ ∃ l g ts a b, nx = .round l g ts a b ∧ fr = Frame.round l g ts a b .normal) ∧
      ∀ (c : Frame) cs, ∃ μ' w', Step μ μ' h h' w w' ∧ CallRes cfg.P μ' fr c cs w w' r := by
      rintro φ hsim ⟨fn, hfn1, hn, hb⟩ hφ
      refine ⟨.enter k (first' ++ args'.toArray ++ cap'), _, ?_, .inl ⟨_, _, rfl, rfl⟩, fun c cs => ?_⟩
      · simp only [Deferred.ofValue, Sem.run_bind, Sem.run_pure, Result.andThen_ok, invoke, run_callFunc hfn1 hn hb]
      · rw [← harr]
        exact hsim.call hr hf hargs hφ c cs
    split at he
    · rename_i φ hφ
      exact build φ (hC.spec k φ hφ) (hC.body k φ hφ) he
    · split at he
      case isFalse => simp at he
      case isTrue hin =>
      split at he
      case h_2 => simp at he
      case h_1 fn hfn1 =>
      obtain ⟨fn2, hfn2, hg, hn, hb⟩ := hC.inl k hin
      rw [hfn1] at hfn2; cases hfn2
      split at he
      · exact build _ (body_sound hrec hfn1 hg).iso ⟨fn, hfn1, hn, hb⟩ he
      · exact build _ (body_sound hrec hfn1 hg) ⟨fn, hfn1, hn, hb⟩ he
  · rename_i l first cap
    cases hfv with
    | func _ hfn => exact absurd rfl (hfn _)
    | yield hl =>
    rename_i m
    obtain ⟨g, ts, x, y, hy, hgo⟩ := round_sound hrec he hr hf hl ha
    refine ⟨.round m.B g ts x y, _, ?_, .inr ⟨rfl, _, _, _, _, _, rfl, rfl⟩, fun c cs => ?_⟩
    · simp [Deferred.ofValue, invoke, hy]
    · obtain ⟨μ', w', v', rfl, s, hv, hst⟩ := hgo c cs
      exact ⟨μ', w', s, v', hv, hst⟩
  · simp at he

theorem isoPhi_any {φ : Phi} {args : List Value} (h g : Heap) : isoPhi φ args g = (isoPhi φ args h).map fun r => (r.1, g) := by
  unfold isoPhi
  by_cases hc : args.all (closedV 8) = true
  · rw [if_pos hc, if_pos hc]
    split
    · split <;> rfl
    · rfl
  · rw [if_neg hc, if_neg hc]; rfl
theorem evCall_calm {cfg : Cfg} (hC : CfgOk cfg) {rec : Option Nat → Code → Ev} : CalmOk (evCall cfg rec) cfg.calm := by
  intro k first cap args h g hq
  obtain ⟨h1, h2⟩ := hC.calm k hq
  simp only [evCall, h1, h2, if_true]
  by_cases hin : cfg.inl k = true
  · rw [if_pos hin, if_pos hin]
    cases cfg.P.funcs[k]? with
    | none => rfl
    | some fn => exact isoPhi_any h g
  · rw [if_neg hin, if_neg hin]; rfl
/-- The whole evaluator. -/
theorem evD_sound {cfg : Cfg} (hC : CfgOk cfg) (hdraw : ∀ call, CallSound cfg.P call → CalmOk call cfg.calm → DrawSound cfg.P cfg.calm call) :
    ∀ d around c, CodeSound cfg.P around c (evD cfg d around c)
  | 0, around, c => by intro e h x e' h' he; simp [evD] at he
  | d + 1, around, c => evC_sound hC.prog (evCall_sound hC (evD_sound hC hdraw d)) (hdraw _ (evCall_sound hC (evD_sound hC hdraw d)) (evCall_calm hC)) around c
end Go.Proofs.Ytfehhihllenjiaa
