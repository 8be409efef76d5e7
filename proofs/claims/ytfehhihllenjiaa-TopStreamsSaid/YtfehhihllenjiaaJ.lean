/- One operation. -/
import Derived.Test.YtfehhihllenjiaaI
set_option linter.all false
namespace Go.Proofs.Ytfehhihllenjiaa

def ev (e : Env) : Operand → Value
  | .tmp t => e t
  | .const v => v
  | .func f => .func (.func f) #[] #[]
  | .global _ => undef
theorem ev_sound {μ : Mu} {e : Env} {a : Act} (he : EnvR μ e a.tmps) {x : Operand} (hg : goodOpd x = true) : VR μ (ev e x) (a.eval x) := by
  cases x with
  | tmp t => exact he t
  | const v => exact VR.closed 8 v hg
  | func f => exact .func _ (fun l => by simp) .nil .nil
  | global g => simp [goodOpd] at hg

def evMin (isMax : Bool) : List Value → Option Value
  | [.int k x, .int _ y] => some (.int k (if isMax then (if y > x then y else x) else (if y < x then y else x)))
  | [.int k x, .int _ y, .int _ z] => some (.int k (if isMax then (if z > (if y > x then y else x) then z else (if y > x then y else x)) else (if z < (if y < x then y else x) then z else (if y < x then y else x))))
  | _ => none

def evLenB (P : Program) (t : TypeId) (x : Value) : Option Value :=
  match P.underlying t, x with
  | some .string, .string s => some (.int .i64 s.size)
  | some (.array n _), _ => some (.int .i64 n)
  | some (.pointer arr), _ => match P.underlying arr with
    | some (.array n _) => some (.int .i64 n)
    | _ => none
  | some (.slice _), .slice _ n _ => some (.int .i64 n)
  | _, _ => none
def evCapB (P : Program) (t : TypeId) (x : Value) (h : Heap) : Option Value :=
  match P.underlying t, x with
  | some (.slice _), .slice none 0 0 => some (.int .i64 0)
  | some (.slice _), .slice (some ⟨0, 0, some 0⟩) 0 0 => some (.int .i64 0)
  | some (.slice _), .slice (some ⟨b, i, none⟩) n c => match h.obj b with
    | some (.row k es cs) => if exactS k i c es cs = true then some (.int .i64 c) else none
    | _ => none
  | _, _ => none

def evBuiltin (P : Program) (b : Builtin) (ts : List TypeId) (args : List Value) (h : Heap) : Option (Value × Heap) :=
  match b, ts, args with
  | .len, [t], [x] => (evLenB P t x).map fun v => (v, h)
  | .cap, [t], [x] => (evCapB P t x h).map fun v => (v, h)
  | .append, [st, xt], [s, x] => evAppend P st xt s x h
  | .copy, [dt, _], [d, s] => evCopy P dt d s h
  | .min, _, xs => (evMin false xs).map fun v => (v, h)
  | .max, _, xs => (evMin true xs).map fun v => (v, h)
  | _, _, _ => none

def evNil (x : Value) : Option Value :=
  match x with
  | .pointer (some a) => some (.pointer (some a))
  | .func (.func f) a b => some (.func (.func f) a b)
  | .func (.yield f) a b => some (.func (.yield f) a b)
  | .iface t v => some (.iface t v)
  | _ => none

def evToArr (P : Program) (t : TypeId) (x : Value) : Option Value :=
  match P.underlying t, x with
  | some (.array n _), .slice (some ⟨b, i, none⟩) len _ => if n ≤ len then some (.pointer (some ⟨b, i, none⟩)) else none
  | _, _ => none

def evPlain (P : Program) (e : Env) (h : Heap) (o : Oper) : Option (Value × Heap) :=
  match o.op with
  | .move x => some (ev e x, h)
  | .assign x => some (ev e x, h)
  | .pick c a b => match ev e c with
    | .bool t => some (if t then ev e a else ev e b, h)
    | _ => none
  | .alloc t => evAlloc P t h
  | .box _ x => evBox (ev e x) h
  | .build t parts => (evBuild P t (parts.toList.map fun p => (p.1, ev e p.2))).map fun v => (v, h)
  | .buildSlice t n parts => evBuildSlice P t n (parts.toList.map fun p => (p.1, ev e p.2)) h
  | .load t a => (evLoad P t (ev e a) h).map fun v => (v, h)
  | .store t a x => (evStore P t (ev e a) (ev e x) h).map fun h' => (undef, h')
  | .nilCheck x => (evNil (ev e x)).map fun v => (v, h)
  | .binOp op t x y _ => (evBin P op t (Region.isConst x || Region.isConst y) (ev e x) (ev e y)).map fun v => (v, h)
  | .unOp op _ x => (evUn op (ev e x)).map fun v => (v, h)
  | .convert s d x => evConvert P s d (ev e x) h
  | .sliceToArrayPointer t x => (evToArr P t (ev e x)).map fun v => (v, h)
  | .makeInterface t x => match P.underlying t with
    | some (.interface _) => none
    | some _ => some (.iface t (ev e x), h)
    | none => none
  | .makeFunc (.func f) first cap => some (.func (.func f) (first.toList.map (ev e)).toArray (cap.toList.map (ev e)).toArray, h)
  | .makeSlice t l c => evMakeSlice P t (ev e l) (ev e c) h
  | .slice t x lo hi mx => (evSlice P t (ev e x) (lo.map (ev e)) (hi.map (ev e)) (mx.map (ev e)) h).map fun v => (v, h)
  | .fieldAddr t x f => (evFieldAddr P t (ev e x) f).map fun v => (v, h)
  | .field t x f => (evField P t (ev e x) f).map fun v => (v, h)
  | .indexAddr t x i => (evIndexAddr P t (ev e x) (ev e i)).map fun v => (v, h)
  | .index t x i => (evIndex P t (ev e x) (ev e i)).map fun v => (v, h)
  | .extract x k => (evExtract (ev e x) k).map fun v => (v, h)
  | .call c => match c.callee with
    | .builtin b => evBuiltin P b c.argTypes.toList (c.args.toList.map (ev e)) h
    | _ => none
  | _ => none

/-- What an operation's run gives, where it calls nothing. -/
def NSound (P : Program) (s : Sem Next) (μ : Mu) (h : Heap) (w : World) (v : Value) (h' : Heap) : Prop :=
  ∃ nx v' w' μ', s.run P w = .ok nx w' ∧ (nx = .value v' ∨ nx = .skip ∧ v' = undef) ∧ Step μ μ' h h' w w' ∧ VR μ' v v'

theorem NSound.of {P : Program} {s : Sem Value} {μ : Mu} {h h' : Heap} {w : World} {v : Value} (hs : Sound P s μ h w v h') : NSound P (do pure (.value (← s))) μ h w v h' := by
  obtain ⟨v', w', μ', h1, h2, h3⟩ := hs
  exact ⟨.value v', v', w', μ', by simp [h1], .inl rfl, h2, h3⟩
theorem NSound.pure {P : Program} {s : Sem Value} {μ : Mu} {h : Heap} {w : World} {v : Value} (hr : Rel μ h w) (hf : Fresh μ h) (hs : ∃ v', s.run P w = .ok v' w ∧ VR μ v v') : NSound P (do pure (.value (← s))) μ h w v h := by
  obtain ⟨v', h1, h2⟩ := hs
  exact ⟨.value v', v', w, μ, by simp [h1], .inl rfl, .refl hr hf, h2⟩

theorem VRL.inv1 {μ : Mu} {x : Value} {l : List Value} (h : VRL μ [x] l) : ∃ x', l = [x'] ∧ VR μ x x' := by
  cases h with
  | cons h1 t => cases t; exact ⟨_, rfl, h1⟩
theorem VRL.inv2 {μ : Mu} {x y : Value} {l : List Value} (h : VRL μ [x, y] l) : ∃ x' y', l = [x', y'] ∧ VR μ x x' ∧ VR μ y y' := by
  cases h with
  | cons h1 t => obtain ⟨y', rfl, h2⟩ := VRL.inv1 t; exact ⟨_, _, rfl, h1, h2⟩
theorem VRL.inv3 {μ : Mu} {x y z : Value} {l : List Value} (h : VRL μ [x, y, z] l) : ∃ x' y' z', l = [x', y', z'] ∧ VR μ x x' ∧ VR μ y y' ∧ VR μ z z' := by
  cases h with
  | cons h1 t => obtain ⟨y', z', rfl, h2, h3⟩ := VRL.inv2 t; exact ⟨_, _, _, rfl, h1, h2, h3⟩

theorem evMin_sound {P : Program} {m : Bool} {xs xs' : List Value} {r : Value} {μ : Mu} {w : World} (h : evMin m xs = some r) (hx : VRL μ xs xs') (ts : Array TypeId) (ty : TypeId) :
    (if m then Builtin.max_ ts ty xs'.toArray else Builtin.min_ ts ty xs'.toArray).run P w = .ok r w ∧ VR μ r r := by
  unfold evMin at h
  split at h
  · rename_i k x k2 y
    obtain ⟨_, _, rfl, h1, h2⟩ := hx.inv2
    cases h1; cases h2
    simp only [Option.some.injEq] at h
    subst h
    cases m
    · refine ⟨?_, .int _ _⟩
      simp [Builtin.min_, Builtin.min2]
    · refine ⟨?_, .int _ _⟩
      simp [Builtin.max_, Builtin.max2]
  · rename_i k x k2 y k3 z
    obtain ⟨_, _, _, rfl, h1, h2, h3⟩ := hx.inv3
    cases h1; cases h2; cases h3
    simp only [Option.some.injEq] at h
    subst h
    cases m
    · refine ⟨?_, .int _ _⟩
      simp [Builtin.min_, Builtin.min2]
    · refine ⟨?_, .int _ _⟩
      simp [Builtin.max_, Builtin.max2]
  · simp at h

theorem VRL.of_map {μ : Mu} {α : Type} {f g : α → Value} : ∀ (l : List α), (∀ x ∈ l, VR μ (f x) (g x)) → VRL μ (l.map f) (l.map g)
  | [], _ => .nil
  | x :: l, h => .cons (h x (by simp)) (VRL.of_map l fun y hy => h y (by simp [hy]))

theorem evBuiltin_sound {P : Program} (hP : ProgOk P) {b : Builtin} {ts : Array TypeId} {args args' : List Value} {v : Value} {h h' : Heap} {μ : Mu} {w : World} (he : evBuiltin P b ts.toList args h = some (v, h'))
    (hr : Rel μ h w) (hf : Fresh μ h) (ha : VRL μ args args') (ty : TypeId) (consts : Array Bool) : NSound P (builtin b ts ty consts args'.toArray) μ h w v h' := by
  unfold evBuiltin at he
  split at he
  · rename_i t x hts
    obtain rfl : ts = #[t] := Array.toList_inj.1 hts
    obtain ⟨_, rfl, h1⟩ := ha.inv1
    obtain ⟨r, hr', he⟩ := Option.map_eq_some_iff.1 he
    simp only [Prod.mk.injEq] at he
    obtain ⟨rfl, rfl⟩ := he
    refine NSound.pure hr hf ?_
    unfold evLenB at hr'
    split at hr'
    · rename_i s hd; cases h1; simp only [Option.some.injEq] at hr'; subst hr'; exact ⟨_, by simp [Builtin.len_, run_underlying hd, goInt], .int _ _⟩
    · rename_i n el hd; simp only [Option.some.injEq] at hr'; subst hr'; exact ⟨_, by simp [Builtin.len_, run_underlying hd, goInt], .int _ _⟩
    · rename_i arr hd
      split at hr'
      · rename_i n el hd2; simp only [Option.some.injEq] at hr'; subst hr'; exact ⟨_, by simp [Builtin.len_, run_underlying hd, run_underlying hd2, goInt], .int _ _⟩
      · simp at hr'
    · rename_i el a n c hd; simp only [Option.some.injEq] at hr'; subst hr'
      cases h1 <;> exact ⟨_, by simp [Builtin.len_, run_underlying hd, goInt], .int _ _⟩
    · simp at hr'
  · rename_i t x hts
    obtain rfl : ts = #[t] := Array.toList_inj.1 hts
    obtain ⟨_, rfl, h1⟩ := ha.inv1
    obtain ⟨r, hr', he⟩ := Option.map_eq_some_iff.1 he
    simp only [Prod.mk.injEq] at he
    obtain ⟨rfl, rfl⟩ := he
    refine NSound.pure hr hf ?_
    unfold evCapB at hr'
    split at hr'
    · rename_i el hd; cases h1; simp only [Option.some.injEq] at hr'; subst hr'; exact ⟨_, by simp [Builtin.cap_, run_underlying hd, goInt], .int _ _⟩
    · rename_i el hd; cases h1; simp only [Option.some.injEq] at hr'; subst hr'; exact ⟨_, by simp [Builtin.cap_, run_underlying hd, goInt], .int _ _⟩
    · rename_i el b i n c hd
      cases h1 with
      | slice hb hc =>
      rename_i C m
      split at hr'
      case h_2 => simp at hr'
      case h_1 k es cs hob =>
      split at hr'
      case isFalse => simp at hr'
      case isTrue hex =>
      simp only [Option.some.injEq] at hr'; subst hr'
      obtain ⟨hmk, hme, hlen, _⟩ := hr.obj b m _ hb hob
      have hCc : C = c := by
        rcases hc with rfl | ⟨hg, _, hend, _⟩
        · rfl
        · exfalso
          rw [hmk] at hg
          rw [hme, hlen] at hend
          simp [exactS, hg, hend] at hex
      subst hCc
      exact ⟨_, by simp [Builtin.cap_, run_underlying hd, goInt], .int _ _⟩
    · simp at hr'
  · rename_i st xt s x hts
    obtain rfl : ts = #[st, xt] := Array.toList_inj.1 hts
    obtain ⟨_, _, rfl, h1, h2⟩ := ha.inv2
    exact NSound.of (evAppend_sound hP he hr hf h1 h2)
  · rename_i dt st d s hts
    obtain rfl : ts = #[dt, st] := Array.toList_inj.1 hts
    obtain ⟨_, _, rfl, h1, h2⟩ := ha.inv2
    exact NSound.of (evCopy_sound he hr hf h1 h2)
  · obtain ⟨r, hr', he⟩ := Option.map_eq_some_iff.1 he
    simp only [Prod.mk.injEq] at he
    obtain ⟨rfl, rfl⟩ := he
    have := evMin_sound (P := P) (w := w) hr' ha ts ty
    exact NSound.pure hr hf ⟨r, by simpa using this.1, this.2⟩
  · obtain ⟨r, hr', he⟩ := Option.map_eq_some_iff.1 he
    simp only [Prod.mk.injEq] at he
    obtain ⟨rfl, rfl⟩ := he
    have := evMin_sound (P := P) (w := w) hr' ha ts ty
    exact NSound.pure hr hf ⟨r, by simpa using this.1, this.2⟩
  · simp at he

theorem evNil_run {P : Program} {e : Env} {a : Act} {h : Heap} {μ : Mu} {w : World} {x : Operand} {v : Value} {o : Oper} (ho : o.op = .nilCheck x) (he : evNil (ev e x) = some v) (hr : Rel μ h w) (hf : Fresh μ h) (hx : VR μ (ev e x) (a.eval x)) :
    NSound P (execOp a.eval o) μ h w v h := by
  unfold execOp
  rw [ho]
  dsimp only
  generalize ev e x = y at he hx
  generalize a.eval x = y' at hx ⊢
  unfold evNil at he
  split at he
  · simp only [Option.some.injEq] at he; subst he
    cases hx with
    | ptr hb => exact ⟨_, _, w, μ, rfl, .inl rfl, .refl hr hf, .ptr hb⟩
  · simp only [Option.some.injEq] at he; subst he
    cases hx with
    | func fn hfn h1 h2 => exact ⟨_, _, w, μ, rfl, .inl rfl, .refl hr hf, .func _ hfn h1 h2⟩
  · simp only [Option.some.injEq] at he; subst he
    cases hx with
    | func fn hfn h1 h2 => exact absurd rfl (hfn _)
    | yield hl => exact ⟨_, _, w, μ, rfl, .inl rfl, .refl hr hf, .yield hl⟩
  · simp only [Option.some.injEq] at he; subst he
    cases hx with
    | iface t hv => exact ⟨_, _, w, μ, rfl, .inl rfl, .refl hr hf, .iface _ hv⟩
  · simp at he

theorem evPlain_sound {P : Program} (hP : ProgOk P) {e : Env} {a : Act} {h h' : Heap} {o : Oper} {v : Value} {μ : Mu} {w : World} (he : evPlain P e h o = some (v, h')) (hev : ∀ x ∈ o.op.operands.toList, VR μ (ev e x) (a.eval x)) (hr : Rel μ h w) (hf : Fresh μ h) : NSound P (execOp a.eval o) μ h w v h' := by
  unfold evPlain at he
  split at he
  all_goals rename_i hop
  all_goals simp only [hop, Op.operands] at hev
  · simp only [Option.some.injEq, Prod.mk.injEq] at he; obtain ⟨rfl, rfl⟩ := he
    exact ⟨.value (a.eval _), _, w, μ, by unfold execOp; rw [hop]; rfl, .inl rfl, .refl hr hf, hev _ (by simp)⟩
  · simp only [Option.some.injEq, Prod.mk.injEq] at he; obtain ⟨rfl, rfl⟩ := he
    exact ⟨.value (a.eval _), _, w, μ, by unfold execOp; rw [hop]; rfl, .inl rfl, .refl hr hf, hev _ (by simp)⟩
  · -- pick
    rename_i c x y
    have hc := hev c (by simp)
    split at he
    case h_2 => simp at he
    case h_1 t hb =>
    rw [hb] at hc
    simp only [Option.some.injEq, Prod.mk.injEq] at he; obtain ⟨rfl, rfl⟩ := he
    refine ⟨.value (if t then a.eval x else a.eval y), _, w, μ, ?_, .inl rfl, .refl hr hf, ?_⟩
    · unfold execOp; rw [hop]
      dsimp only
      generalize a.eval c = c' at hc ⊢
      cases hc
      simp [asBool]
    · cases t
      · exact hev y (by simp)
      · exact hev x (by simp)
  · -- alloc
    have := NSound.of (evAlloc_sound hP he hr hf)
    unfold execOp; rw [hop]; exact this
  · rename_i t x
    have := NSound.of (evBox_sound (P := P) (t := t) he hr hf (hev x (by simp)))
    unfold execOp; rw [hop]; exact this
  · rename_i t parts
    obtain ⟨r, hr', he⟩ := Option.map_eq_some_iff.1 he
    simp only [Prod.mk.injEq] at he; obtain ⟨rfl, rfl⟩ := he
    have hb := evBuild_sound hP (g := a.eval) hr' (fun p hp => hev p.2 (by simp; exact ⟨p.1, by simpa using hp⟩)) w
    have := NSound.pure hr hf hb
    unfold execOp; rw [hop]
    have e1 : (parts.toList.map fun p => (p.1, a.eval p.2)).toArray = parts.map fun p => (p.1, a.eval p.2) := by
      apply Array.toList_inj.1; simp
    rw [e1] at this
    exact this
  · rename_i t n parts
    have := NSound.of (evBuildSlice_sound hP (g := a.eval) he hr hf (fun p hp => hev p.2 (by simp; exact ⟨p.1, by simpa using hp⟩)))
    unfold execOp; rw [hop]
    have e1 : (parts.toList.map fun p => (p.1, a.eval p.2)).toArray = parts.map fun p => (p.1, a.eval p.2) := by
      apply Array.toList_inj.1; simp
    rw [e1] at this
    exact this
  · rename_i t x
    obtain ⟨r, hr', he⟩ := Option.map_eq_some_iff.1 he
    simp only [Prod.mk.injEq] at he; obtain ⟨rfl, rfl⟩ := he
    have := NSound.pure hr hf (evLoad_sound (P := P) hr' hr hf (hev x (by simp)))
    unfold execOp; rw [hop]; exact this
  · rename_i t x y
    obtain ⟨r, hr', he⟩ := Option.map_eq_some_iff.1 he
    simp only [Prod.mk.injEq] at he; obtain ⟨rfl, rfl⟩ := he
    obtain ⟨w', hw', hs⟩ := evStore_sound (P := P) hr' hr hf (hev x (by simp)) (hev y (by simp))
    exact ⟨.skip, undef, w', μ, by unfold execOp; rw [hop]; simp [hw'], .inr ⟨rfl, rfl⟩, hs, .tuple .nil⟩
  · rename_i x
    obtain ⟨r, hr', he⟩ := Option.map_eq_some_iff.1 he
    simp only [Prod.mk.injEq] at he; obtain ⟨rfl, rfl⟩ := he
    exact evNil_run hop hr' hr hf (hev x (by simp))
  · rename_i op t x y _
    obtain ⟨r, hr', he⟩ := Option.map_eq_some_iff.1 he
    simp only [Prod.mk.injEq] at he; obtain ⟨rfl, rfl⟩ := he
    have hb := evBin_sound (P := P) (w := w) hr' (hev x (by simp)) (hev y (by simp))
    have := NSound.pure hr hf ⟨_, hb.1, hb.2⟩
    unfold execOp; rw [hop]; exact this
  · rename_i op _ x
    obtain ⟨r, hr', he⟩ := Option.map_eq_some_iff.1 he
    simp only [Prod.mk.injEq] at he; obtain ⟨rfl, rfl⟩ := he
    have hb := evUn_sound (P := P) (w := w) hr' (hev x (by simp))
    have := NSound.pure hr hf ⟨_, hb.1, hb.2⟩
    unfold execOp; rw [hop]; exact this
  · rename_i s d x
    have := NSound.of (evConvert_sound (P := P) he hr hf (hev x (by simp)))
    unfold execOp; rw [hop]; exact this
  · rename_i t x
    obtain ⟨r, hr', he⟩ := Option.map_eq_some_iff.1 he
    simp only [Prod.mk.injEq] at he; obtain ⟨rfl, rfl⟩ := he
    have hx := hev x (by simp)
    have : ∃ v', (Instr.arrayAt t (a.eval x)).run P w = .ok v' w ∧ VR μ r v' := by
      unfold evToArr at hr'
      split at hr'
      case h_2 => simp at hr'
      case h_1 n el b i len c hd heq =>
      rw [heq] at hx
      split at hr'
      case isFalse => simp at hr'
      case isTrue hle =>
      simp only [Option.some.injEq] at hr'; subst hr'
      generalize a.eval x = x' at hx ⊢
      cases hx with
      | slice hb hc => exact ⟨_, by simp [Instr.arrayAt, run_underlying hd, show ¬ len < n by omega], .ptr hb⟩
    have := NSound.pure hr hf this
    unfold execOp; rw [hop]; exact this
  · rename_i t x
    split at he
    · simp at he
    · rename_i d hd hdi
      simp only [Option.some.injEq, Prod.mk.injEq] at he; obtain ⟨rfl, rfl⟩ := he
      have : ∃ v', (Instr.makeInterface t (a.eval x)).run P w = .ok v' w ∧ VR μ (.iface t (ev e x)) v' := by
        refine ⟨.iface t (a.eval x), ?_, .iface t (hev x (by simp))⟩
        refine (Sem.run_bind P w (underlying t) _).trans ?_
        rw [run_underlying hdi, Result.andThen_ok]
        cases d <;> first | rfl | exact (hd _ rfl).elim
      have := NSound.pure hr hf this
      unfold execOp; rw [hop]; exact this
    · simp at he
  · rename_i f first cap
    simp only [Option.some.injEq, Prod.mk.injEq] at he; obtain ⟨rfl, rfl⟩ := he
    refine ⟨.value (.func (.func f) (first.map a.eval) (cap.map a.eval)), _, w, μ, by unfold execOp; rw [hop]; rfl, .inl rfl, .refl hr hf, .func _ (fun l => by simp) ?_ ?_⟩
    · simp only [List.toList_toArray, Array.toList_map]; exact VRL.of_map _ fun x hx => hev x (by simp [hx] <;> simp at hx <;> simp [hx])
    · simp only [List.toList_toArray, Array.toList_map]; exact VRL.of_map _ fun x hx => hev x (by simp at hx; simp [hx])
  · rename_i t l c
    have := NSound.of (evMakeSlice_sound hP he hr hf (hev l (by simp)) (hev c (by simp)))
    unfold execOp; rw [hop]; exact this
  · rename_i t x lo hi mx
    obtain ⟨r, hr', he⟩ := Option.map_eq_some_iff.1 he
    simp only [Prod.mk.injEq] at he; obtain ⟨rfl, rfl⟩ := he
    have := NSound.pure hr hf (evSlice_sound (P := P) hr' hr (hev x (by simp)) (ORel.of_map (g := a.eval) lo fun y hy => hev y (by simp [hy])) (ORel.of_map (g := a.eval) hi fun y hy => hev y (by simp [hy])) (ORel.of_map (g := a.eval) mx fun y hy => hev y (by simp [hy])))
    unfold execOp; rw [hop]; exact this
  · rename_i t x f
    obtain ⟨r, hr', he⟩ := Option.map_eq_some_iff.1 he
    simp only [Prod.mk.injEq] at he; obtain ⟨rfl, rfl⟩ := he
    have := NSound.pure hr hf (evFieldAddr_sound (P := P) hr' (hev x (by simp)) w)
    unfold execOp; rw [hop]; exact this
  · rename_i t x f
    obtain ⟨r, hr', he⟩ := Option.map_eq_some_iff.1 he
    simp only [Prod.mk.injEq] at he; obtain ⟨rfl, rfl⟩ := he
    have := NSound.pure hr hf (evField_sound (P := P) hr' (hev x (by simp)) w)
    unfold execOp; rw [hop]; exact this
  · rename_i t x i
    obtain ⟨r, hr', he⟩ := Option.map_eq_some_iff.1 he
    simp only [Prod.mk.injEq] at he; obtain ⟨rfl, rfl⟩ := he
    have := NSound.pure hr hf (evIndexAddr_sound (P := P) hr' (hev x (by simp)) (hev i (by simp)) w)
    unfold execOp; rw [hop]; exact this
  · rename_i t x i
    obtain ⟨r, hr', he⟩ := Option.map_eq_some_iff.1 he
    simp only [Prod.mk.injEq] at he; obtain ⟨rfl, rfl⟩ := he
    have := NSound.pure hr hf (evIndex_sound (P := P) hr' (hev x (by simp)) (hev i (by simp)) w)
    unfold execOp; rw [hop]; exact this
  · rename_i x k
    obtain ⟨r, hr', he⟩ := Option.map_eq_some_iff.1 he
    simp only [Prod.mk.injEq] at he; obtain ⟨rfl, rfl⟩ := he
    have := NSound.pure hr hf (evExtract_sound (P := P) hr' (hev x (by simp)) w)
    unfold execOp; rw [hop]; exact this
  · rename_i c
    split at he
    · rename_i b hc
      have ha : VRL μ (c.args.toList.map (ev e)) (c.args.toList.map a.eval) := VRL.of_map _ fun x hx => hev x (by simp [Call.operands]; right; simpa using hx)
      obtain ⟨nx, v', w', μ', h1, h2⟩ := evBuiltin_sound hP he hr hf ha o.type (c.args.map fun | .const _ => true | _ => false)
      refine ⟨nx, v', w', μ', ?_, h2⟩
      unfold execOp; rw [hop]
      simp only [resolve, hc, Sem.run_bind, Sem.run_pure, Result.andThen_ok, invoke]
      have e1 : (c.args.toList.map a.eval).toArray = c.args.map a.eval := by apply Array.toList_inj.1; simp
      rw [e1] at h1
      exact h1
    · simp at he
  · simp at he
end Go.Proofs.Ytfehhihllenjiaa
