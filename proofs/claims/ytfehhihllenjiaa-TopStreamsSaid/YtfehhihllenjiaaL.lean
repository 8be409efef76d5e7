/- The evaluator of code is sound: operations, regions in the text's order. -/
import Derived.Test.YtfehhihllenjiaaK
set_option linter.all false
namespace Go.Proofs.Ytfehhihllenjiaa

section
variable {P : Program} {b : Frame} {a : Act} {k : List Item} {cs : List Frame} {w w' : World} {ops : Array Oper} {i : Nat} {rest : List Nat} {o : Oper}
theorem fin_atR (ho : ops[i]? = some o) (v : Value) : (b.atR a (.inRegion ops (i :: rest) :: k)).finish v = b.atR (a.put o.dst v) (.inRegion ops rest :: k) := by
  rw [Frame.finish_atR, ho]; rfl
theorem stepR_value {v : Value} (ho : ops[i]? = some o) (hw : Region.wanted o (yielded ops a.tmps) = true) (hd : ∀ c, o.op ≠ .defer c) (hr : (execOp a.eval o).run P w = .ok (.value v) w') :
    step P (lone (b.atR a (.inRegion ops (i :: rest) :: k)) cs w) = .next (lone (b.atR (a.put o.dst v) (.inRegion ops rest :: k)) cs w') :=
  step_lone_go (by rw [stepGR_op ho hw, Oper.semAt_eq _ _ _ hd, ← fin_atR ho]; simp [stepG.apply, hr])
theorem stepR_skipop (ho : ops[i]? = some o) (hw : Region.wanted o (yielded ops a.tmps) = true) (hd : ∀ c, o.op ≠ .defer c) (hr : (execOp a.eval o).run P w = .ok .skip w') :
    step P (lone (b.atR a (.inRegion ops (i :: rest) :: k)) cs w) = .next (lone (b.atR (a.put o.dst undef) (.inRegion ops rest :: k)) cs w') :=
  step_lone_go (by rw [stepGR_op ho hw, Oper.semAt_eq _ _ _ hd, ← fin_atR ho]; simp [stepG.apply, hr])
theorem stepR_panic {v : Value} (ho : ops[i]? = some o) (hw : Region.wanted o (yielded ops a.tmps) = true) (hd : ∀ c, o.op ≠ .defer c) (hr : (execOp a.eval o).run P w = .halt (.panic v) w') :
    step P (lone (b.atR a (.inRegion ops (i :: rest) :: k)) cs w) = .next (lone { b.atR a (.inRegion ops (i :: rest) :: k) with mode := .panicking [{ v := v, recovered := false }] } cs w') :=
  step_lone_go (by rw [stepGR_op ho hw, Oper.semAt_eq _ _ _ hd]; simp [stepG.apply, hr, Frame.raise_atR])
theorem stepR_enter {f : FuncId} {as : Array Value} (ho : ops[i]? = some o) (hw : Region.wanted o (yielded ops a.tmps) = true) (hd : ∀ c, o.op ≠ .defer c) (hr : (execOp a.eval o).run P w = .ok (.enter f as) w') :
    step P (lone (b.atR a (.inRegion ops (i :: rest) :: k)) cs w) = .next (lone (Frame.enter P f as .normal) (b.atR a (.inRegion ops (i :: rest) :: k) :: cs) w') :=
  step_lone_go (by rw [stepGR_op ho hw, Oper.semAt_eq _ _ _ hd]; simp [stepG.apply, hr, Frame.atR])
theorem stepR_round {l : Nat} {f : FuncId} {ts : Array Value} {x y : Code} (ho : ops[i]? = some o) (hw : Region.wanted o (yielded ops a.tmps) = true) (hd : ∀ c, o.op ≠ .defer c) (hr : (execOp a.eval o).run P w = .ok (.round l f ts x y) w') :
    step P (lone (b.atR a (.inRegion ops (i :: rest) :: k)) cs w) = .next (lone (Frame.round l f ts x y .normal) (b.atR a (.inRegion ops (i :: rest) :: k) :: cs) w') :=
  step_lone_go (by rw [stepGR_op ho hw, Oper.semAt_eq _ _ _ hd]; simp [stepG.apply, hr, Frame.atR])
end

theorem evPlain_nodefer {P : Program} {e : Env} {h : Heap} {o : Oper} {r : Value × Heap} (he : evPlain P e h o = some r) : ∀ c, o.op ≠ .defer c := by
  intro c hc
  unfold evPlain at he
  rw [hc] at he
  simp at he

/-- One operation of a region. -/
theorem op_sound {P : Program} (hP : ProgOk P) {call : Value → Phi} (hcall : CallSound P call) {e : Env} {h h' : Heap} {o : Oper} {r : Rs} {μ : Mu} {w : World} {a : Act} (he : evOp call P e h o = some (r, h'))
    (hev0 : ∀ x ∈ o.op.operands.toList, VR μ (ev e x) (a.eval x)) (hr : Rel μ h w) (hf : Fresh μ h) (b : Frame) (k : List Item) (cs : List Frame) {ops : Array Oper} {i : Nat} (rest : List Nat) (ho : ops[i]? = some o)
    (hw : Region.wanted o (yielded ops a.tmps) = true) :
    ∃ μ' w', Step μ μ' h h' w w' ∧ match r with
      | .ok v => ∃ v', VR μ' v v' ∧ Steps P (lone (b.atR a (.inRegion ops (i :: rest) :: k)) cs w) (lone (b.atR (a.put o.dst v') (.inRegion ops rest :: k)) cs w')
      | .pan v => ∃ v', VR μ' v v' ∧ Steps P (lone (b.atR a (.inRegion ops (i :: rest) :: k)) cs w) (lone { b.atR a (.inRegion ops (i :: rest) :: k) with mode := .panicking [{ v := v', recovered := false }] } cs w') := by
  have plain : ∀ (v : Value), evPlain P e h o = some (v, h') → ∃ μ' w', Step μ μ' h h' w w' ∧ ∃ v', VR μ' v v' ∧ Steps P (lone (b.atR a (.inRegion ops (i :: rest) :: k)) cs w) (lone (b.atR (a.put o.dst v') (.inRegion ops rest :: k)) cs w') := by
    intro v hp
    obtain ⟨nx, v', w', μ', h1, h2, h3, h4⟩ := evPlain_sound hP hp hev0 hr hf
    have hd := evPlain_nodefer hp
    refine ⟨μ', w', h3, v', h4, .one ?_⟩
    rcases h2 with rfl | ⟨rfl, rfl⟩
    · exact stepR_value ho hw hd h1
    · exact stepR_skipop ho hw hd h1
  have viaPlain : (evPlain P e h o).map (fun r => (Rs.ok r.1, r.2)) = some (r, h') → ∃ μ' w', Step μ μ' h h' w w' ∧ match r with
      | .ok v => ∃ v', VR μ' v v' ∧ Steps P (lone (b.atR a (.inRegion ops (i :: rest) :: k)) cs w) (lone (b.atR (a.put o.dst v') (.inRegion ops rest :: k)) cs w')
      | .pan v => ∃ v', VR μ' v v' ∧ Steps P (lone (b.atR a (.inRegion ops (i :: rest) :: k)) cs w) (lone { b.atR a (.inRegion ops (i :: rest) :: k) with mode := .panicking [{ v := v', recovered := false }] } cs w') := by
    intro hm
    obtain ⟨⟨v, h2⟩, hp, hq⟩ := Option.map_eq_some_iff.1 hm
    simp only [Prod.mk.injEq] at hq
    obtain ⟨rfl, rfl⟩ := hq
    exact plain v hp
  unfold evOp at he
  split at he
  · rename_i c hop
    split at he
    · rename_i f hcal
      have hev := hev0
      simp only [hop, Op.operands, Call.operands, hcal] at hev
      obtain ⟨nx, fr, hrun, hnx, hgo⟩ := hcall _ _ _ _ _ he μ w (a.eval f) (c.args.toList.map a.eval) hr hf (hev f (by simp)) (VRL.of_map _ fun x hx => hev x (by simp at hx; simp [hx]))
      have hd : ∀ c', o.op ≠ .defer c' := fun c' => by rw [hop]; simp
      have hex : (execOp a.eval o).run P w = .ok nx w := by
        unfold execOp
        rw [hop]
        have e1 : (c.args.toList.map a.eval).toArray = c.args.map a.eval := by apply Array.toList_inj.1; simp
        rw [e1] at hrun
        simp only [resolve, hcal]
        exact hrun
      obtain ⟨μ', w', hs, hres⟩ := hgo (b.atR a (.inRegion ops (i :: rest) :: k)) cs
      have hst : step P (lone (b.atR a (.inRegion ops (i :: rest) :: k)) cs w) = .next (lone fr (b.atR a (.inRegion ops (i :: rest) :: k) :: cs) w) := by
        rcases hnx with ⟨g, as, rfl, rfl⟩ | ⟨_, l, g, ts, x, y, rfl, rfl⟩
        · exact stepR_enter ho hw hd hex
        · exact stepR_round ho hw hd hex
      refine ⟨μ', w', hs, ?_⟩
      cases r with
      | ok v =>
        obtain ⟨v', hv, hsteps⟩ := hres
        exact ⟨v', hv, .head hst (by rw [← fin_atR ho]; exact hsteps)⟩
      | pan v =>
        obtain ⟨v', hv, hsteps⟩ := hres
        exact ⟨v', hv, .head hst hsteps⟩
    · exact viaPlain he
  · rename_i x hop
    have hx : VR μ (ev e x) (a.eval x) := hev0 x (by simp [hop, Op.operands])
    split at he
    case h_2 => simp at he
    case h_1 t v hv =>
    simp only [Option.some.injEq, Prod.mk.injEq] at he
    obtain ⟨rfl, rfl⟩ := he
    rw [hv] at hx
    have hd : ∀ c', o.op ≠ .defer c' := fun c' => by rw [hop]; simp
    generalize hax : a.eval x = v' at hx
    cases hx with
    | iface _ hvv =>
    rename_i v2
    refine ⟨μ, w, .refl hr hf, .iface t v2, .iface t hvv, .one (stepR_panic ho hw hd ?_)⟩
    unfold execOp
    rw [hop]
    simp [hax, Instr.panic]
  · exact viaPlain he

theorem evs_sound {μ : Mu} {e : Env} {a : Act} (hE : EnvR μ e a.tmps) {o : Oper} (hg : o.op.operands.toList.all goodOpd = true) : ∀ x ∈ o.op.operands.toList, VR μ (ev e x) (a.eval x) :=
  fun x hx => ev_sound hE (List.all_eq_true.1 hg x hx)
theorem yielded_sound {μ : Mu} {e : Env} {tmps : Array Value} (hE : EnvR μ e tmps) (ops : Array Oper) (hd : ∀ (i : Nat) (o : Oper) d, ops[i]? = some o → o.dst = some d → d < tmps.size) (j : Nat) : yielded ops tmps j = yieldedA ops e j := by
  unfold yielded yieldedA
  cases hj : (ops[j]?).bind (·.dst) with
  | none => rfl
  | some d =>
    simp only [Option.bind_some]
    obtain ⟨o, ho, hod⟩ := Option.bind_eq_some_iff.1 hj
    have hlt := hd j o d ho hod
    have hr := hE d
    have e1 : tmps[d]? = some (tmps.getD d undef) := by simp [hlt]
    rw [e1]
    generalize tmps.getD d undef = v at hr ⊢
    generalize e d = u at hr ⊢
    cases hr <;> rfl
theorem wanted_sound {μ : Mu} {e : Env} {tmps : Array Value} (hE : EnvR μ e tmps) (ops : Array Oper) (hd : ∀ (i : Nat) (o : Oper) d, ops[i]? = some o → o.dst = some d → d < tmps.size) (o : Oper) : Region.wanted o (yielded ops tmps) = wantedA ops e o := by
  unfold Region.wanted wantedA
  cases o.guard with
  | none => rfl
  | some g => obtain ⟨j, want⟩ := g; simp [yielded_sound hE ops hd j]

theorem put_size (a : Act) (d : Option Nat) (v : Value) : (a.put d v).tmps.size = a.tmps.size := by
  cases d <;> simp [Act.put]
theorem put_defers (a : Act) (d : Option Nat) (v : Value) : (a.put d v).defers = a.defers := by
  cases d <;> simp [Act.put]
theorem EnvR.putE {μ : Mu} {e : Env} {a : Act} (h : EnvR μ e a.tmps) {d : Option Nat} (hd : ∀ x, d = some x → x < a.tmps.size) {v v' : Value} (hv : VR μ v v') : EnvR μ (putE e d v) (a.put d v').tmps := by
  cases d with
  | none => exact h
  | some x => exact h.put (hd x rfl) hv

/-- A region in the text's order. -/
theorem evOps_sound {P : Program} (hP : ProgOk P) {call : Value → Phi} (hcall : CallSound P call) {ops : Array Oper} : ∀ (l : List Oper) (is : List Nat), (is.map fun i => ops[i]?) = l.map some →
    ∀ e h x e' h', evOps call P ops l e h = some (x, e', h') → ∀ μ w a b k cs B0, Rel μ h w → Fresh μ h → EnvR μ e a.tmps → ops.toList.all (goodOper a.tmps.size) = true → MarksOk B0 μ h w a.defers → B0 ≤ w.heap.size →
    Goes P B0 μ h w a.tmps.size (lone (b.atR a (.inRegion ops is :: k)) cs w) b k cs x e' h'
  | [], is, his, e, h, x, e', h', he, μ, w, a, b, k, cs, B0, hr, hf, hE, hg, hm, hB => by
    have : is = [] := by cases is with | nil => rfl | cons i r => simp at his
    subst this
    simp only [evOps, Option.some.injEq, Prod.mk.injEq] at he
    obtain ⟨rfl, rfl, rfl⟩ := he
    exact ⟨μ, w, a, .refl hr hf, hE, rfl, hm, .one stepR_region_end⟩
  | o :: l, [], his, _, _, _, _, _, _, _, _, _, _, _, _, _, _, _, _, _, _, _ => by simp at his
  | o :: l, i :: is, his, e, h, x, e', h', he, μ, w, a, b, k, cs, B0, hr, hf, hE, hg, hm, hB => by
    simp only [List.map_cons, List.cons.injEq] at his
    obtain ⟨ho, his⟩ := his
    have hdst : ∀ (j : Nat) (o : Oper) d, ops[j]? = some o → o.dst = some d → d < a.tmps.size := by
      intro j o d hj hod
      have := List.all_eq_true.1 hg o (by simpa using Array.mem_of_getElem? hj)
      simp only [goodOper, hod, Bool.and_eq_true, decide_eq_true_eq] at this
      exact this.2
    have hgo : o.op.operands.toList.all goodOpd = true := by
      have := List.all_eq_true.1 hg o (by simpa using Array.mem_of_getElem? ho)
      simp only [goodOper, Bool.and_eq_true] at this
      exact this.1
    have hwa := wanted_sound hE ops hdst o
    simp only [evOps] at he
    split at he
    · rename_i hw
      rw [← hwa] at hw
      split at he
      · rename_i v h1 hop
        obtain ⟨μ1, w1, hs, v', hv, hst⟩ := op_sound hP hcall hop (evs_sound hE hgo) hr hf b k cs is ho hw
        have hE1 : EnvR μ1 (putE e o.dst v) (a.put o.dst v').tmps := (hE.mono hs.ext).putE (fun x hx => hdst i o x ho hx) hv
        obtain ⟨μ', w', a', g1, g2, g3, g4, g5⟩ := evOps_sound hP hcall l is his _ _ _ _ _ he μ1 w1 (a.put o.dst v') b k cs B0 hs.rel hs.fresh hE1 (by rw [put_size]; exact hg) (by rw [put_defers]; exact hm.step hf hs)
          (Nat.le_trans hB hs.pres.size)
        exact ⟨μ', w', a', hs.trans hf g1, g2, by rw [g3, put_size], g4, g5.of_steps hst⟩
      · rename_i v h1 hop
        obtain ⟨μ1, w1, hs, v', hv, hst⟩ := op_sound hP hcall hop (evs_sound hE hgo) hr hf b k cs is ho hw
        simp only [Option.some.injEq, Prod.mk.injEq] at he
        obtain ⟨rfl, rfl, rfl⟩ := he
        exact ⟨μ1, w1, a, hs, hE.mono hs.ext, rfl, hm.step hf hs, _, v', hv, hst⟩
      · simp at he
    · rename_i hw
      rw [← hwa] at hw
      have hsk : step P (lone (b.atR a (.inRegion ops (i :: is) :: k)) cs w) = .next (lone (b.atR (a.put o.dst undef) (.inRegion ops is :: k)) cs w) := by
        have := stepR_op_skip (P := P) (b := b) (a := a) (k := k) (cs := cs) (w := w) (ops := ops) (i := i) (rest := is) (by simp [ho]; simpa using hw)
        rw [ho] at this
        exact this
      have hE1 : EnvR μ (putE e o.dst undef) (a.put o.dst undef).tmps := hE.putE (fun x hx => hdst i o x ho hx) (.tuple .nil)
      obtain ⟨μ', w', a', g1, g2, g3, g4, g5⟩ := evOps_sound hP hcall l is his _ _ _ _ _ he μ w (a.put o.dst undef) b k cs B0 hr hf hE1 (by rw [put_size]; exact hg) (by rw [put_defers]; exact hm) hB
      exact ⟨μ', w', a', g1, g2, by rw [g3, put_size], g4, g5.of_steps (.one hsk)⟩
end Go.Proofs.Ytfehhihllenjiaa
