/- The evaluator of code: definitions. -/
import Derived.Test.YtfehhihllenjiaaJ
import Derived.AtR
import Derived.RangeFuncLeaves
import Derived.Orders
set_option linter.all false
namespace Go.Proofs.Ytfehhihllenjiaa

inductive Rs where
  | ok (v : Value)
  | pan (v : Value)
inductive X where
  | normal
  | exit (id : Nat)
  | ret
  | pan (v : Value)
abbrev Phi := List Value → Heap → Option (Rs × Heap)
abbrev Ev := Env → Heap → Option (X × Env × Heap)

def evOp (call : Value → Phi) (P : Program) (e : Env) (h : Heap) (o : Oper) : Option (Rs × Heap) :=
  match o.op with
  | .call c => match c.callee with
    | .value f => call (ev e f) (c.args.toList.map (ev e)) h
    | _ => (evPlain P e h o).map fun r => (.ok r.1, r.2)
  | .panic x => match ev e x with
    | .iface t v => some (.pan (.iface t v), h)
    | _ => none
  | _ => (evPlain P e h o).map fun r => (.ok r.1, r.2)

def yieldedA (ops : Array Oper) (e : Env) (j : Nat) : Option Bool :=
  match (ops[j]?).bind (·.dst) with
  | some d => match e d with
    | .bool b => some b
    | _ => none
  | none => none
def wantedA (ops : Array Oper) (e : Env) (o : Oper) : Bool :=
  match o.guard with
  | none => true
  | some (j, want) => yieldedA ops e j == some want
def putE (e : Env) (dst : Option Nat) (v : Value) : Env :=
  match dst with
  | some d => upd e d v
  | none => e
def evOps (call : Value → Phi) (P : Program) (all : Array Oper) : List Oper → Ev
  | [], e, h => some (.normal, e, h)
  | o :: rest, e, h =>
    if wantedA all e o = true then
      match evOp call P e h o with
      | some (.ok v, h') => evOps call P all rest (putE e o.dst v) h'
      | some (.pan v, h') => some (.pan v, e, h')
      | none => none
    else evOps call P all rest (putE e o.dst undef) h

def iter (f : Ev) : Nat → Ev
  | 0, _, _ => none
  | n + 1, e, h => match f e h with
    | some (.normal, e', h') => iter f n e' h'
    | r => r

def isFunc : Value → Bool
  | .func (.func _) _ _ => true
  | _ => false
def aroundOk (around : Option Nat) (h : Heap) : Bool :=
  match around with
  | none => true
  | some la => match h.obj la with
    | some (.loop _) => true
    | _ => false
def evRange (call : Value → Phi) (around : Option Nat) (f : Operand) (params : Array Tmp) (assign body : Code) : Ev := fun e h =>
  if isFunc (ev e f) = true ∧ aroundOk around h = true then
  match call (ev e f) [.func (.yield h.nx) #[] #[]] (h.push (.loop ⟨.ready, none, e, params, assign, body⟩)) with
  | some (.ok _, h2) => match h2.obj h.nx with
    | some (.loop L) =>
      if L.state = .busy then none else
      match L.pending with
      | none => some (.normal, e, h2.put h.nx (some (.loop { L with state := .exhausted })))
      | some (.exit id) => some (.exit id, e, h2.put h.nx (some (.loop { L with state := .exhausted })))
      | some .ret => some (.ret, e, h2.put h.nx (some (.loop { L with state := .exhausted })))
      | _ => none
    | _ => none
  | some (.pan v, h2) => some (.pan v, e, h2)
  | none => none
  else none

structure Cfg where
  P : Program
  spec : FuncId → Option Phi
  calm : FuncId → Bool
  inl : FuncId → Bool
  iso : FuncId → Bool
  R : Nat

/-! Regions that draw: which orders are held by the edges. 'calm': a function that changes nothing that was there. -/
inductive Cls where | pure | read | alloc | eff
  deriving DecidableEq
def clsOf (calm : FuncId → Bool) : Op → Cls
  | .load .. | .slice .. => .read
  | .alloc _ | .box .. | .buildSlice .. | .makeSlice .. => .alloc
  | .move _ | .assign _ | .pick .. | .build .. | .nilCheck _ | .binOp .. | .unOp .. | .sliceToArrayPointer .. | .makeInterface .. | .makeFunc .. | .fieldAddr .. | .field .. | .indexAddr .. | .index .. | .extract .. => .pure
  | .convert .. => .read
  | .call { callee := .builtin .len, .. } | .call { callee := .builtin .min, .. } | .call { callee := .builtin .max, .. } => .pure
  | .call { callee := .value (.func f), .. } => if calm f then .pure else .eff
  | _ => .eff
def clsOk : Cls → Cls → Bool   -- the first one stands ahead in the text
  | .eff, .eff | .eff, .read | .read, .eff | .alloc, .eff => false
  | _, _ => true
def pairOk (calm : FuncId → Bool) (ops : Array Oper) (bits : Array Nat) (i j : Nat) : Bool :=
  (match ops[i]?, ops[j]? with
   | some oi, some oj => (oi.dst.isNone || oi.dst != oj.dst) && ((bits.getD j 0).testBit i || (clsOk (clsOf calm oi.op) (clsOf calm oj.op) && oi.apart ops oj))
   | _, _ => false)
def drawOk (calm : FuncId → Bool) (ops : Array Oper) : Bool :=
  let bits := Region.before ops
  (ops.toList.zipIdx.all fun p => p.1.after.toList.all fun ed => !Region.binds .any ed || decide (ed.on < p.2)) &&
  (List.range ops.size).all fun j => (List.range j).all fun i => pairOk calm ops bits i j

/-! A read beside an effect that no edge orders: 'F': the operations that are flagged, 'S': the rows that the flagged reads read, and that the flagged effects leave alone. -/
def readEff : Cls → Cls → Bool
  | .read, .eff | .eff, .read => true
  | _, _ => false
def pairOkF (calm : FuncId → Bool) (ops : Array Oper) (bits : Array Nat) (F : List Nat) (i j : Nat) : Bool :=
  (match ops[i]?, ops[j]? with
   | some oi, some oj => (oi.dst.isNone || oi.dst != oj.dst) && ((bits.getD j 0).testBit i || (oi.apart ops oj && (clsOk (clsOf calm oi.op) (clsOf calm oj.op) || (readEff (clsOf calm oi.op) (clsOf calm oj.op) && F.contains i && F.contains j))))
   | _, _ => false)
def drawOkF (calm : FuncId → Bool) (ops : Array Oper) (F : List Nat) : Bool :=
  let bits := Region.before ops
  (ops.toList.zipIdx.all fun p => p.1.after.toList.all fun ed => !Region.binds .any ed || decide (ed.on < p.2)) &&
  (List.range ops.size).all fun j => (List.range j).all fun i => pairOkF calm ops bits F i j
def rowsOfV : Value → List Nat
  | .pointer (some ⟨b, _, none⟩) => [b]
  | .slice (some ⟨b, _, none⟩) _ _ => [b]
  | _ => []
def readRows (e : Env) (op : Op) : List Nat :=
  match op with
  | .load _ a => rowsOfV (ev e a)
  | .slice _ x _ _ _ => rowsOfV (ev e x)
  | .convert _ _ x => rowsOfV (ev e x)
  | _ => []
def chk (calm : FuncId → Bool) (S : Nat → Prop) (e : Env) (h h' : Heap) (op : Op) : Prop :=
  match clsOf calm op with
  | .read => h'.nx = h.nx ∧ ∀ r ∈ readRows e op, S r
  | .eff => ∀ r, S r → r < h.nx → h'.obj r = h.obj r
  | _ => True
def RunOk (call : Value → Phi) (P : Program) (calm : FuncId → Bool) (all : Array Oper) (F : List Nat) (S : Nat → Prop) : Nat → List Oper → Env → Heap → Prop
  | _, [], _, _ => True
  | i, o :: rest, e, h =>
    if wantedA all e o = true then
      match evOp call P e h o with
      | some (.ok v, h') => (F.contains i = true → chk calm S e h h' o.op) ∧ RunOk call P calm all F S (i + 1) rest (putE e o.dst v) h'
      | _ => False
    else RunOk call P calm all F S (i + 1) rest (putE e o.dst undef) h
def normalOnly (r : Option (X × Env × Heap)) : Option (X × Env × Heap) :=
  match r with
  | some (.normal, e, h) => some (.normal, e, h)
  | _ => none
open Classical in
noncomputable def drawE (calm : FuncId → Bool) (call : Value → Phi) (P : Program) (ops : Array Oper) : Ev := fun e h =>
  if drawOk calm ops = true then normalOnly (evOps call P ops ops.toList e h)
  else if ∃ (F : List Nat) (S : Nat → Prop), drawOkF calm ops F = true ∧ RunOk call P calm ops F S 0 ops.toList e h then normalOnly (evOps call P ops ops.toList e h) else none
noncomputable def evC (cfg : Cfg) (call : Value → Phi) (around : Option Nat) : Code → Ev
  | .skip => fun e h => some (.normal, e, h)
  | .region _ ops draw => fun e h => if draw = true then drawE cfg.calm call cfg.P ops e h else evOps call cfg.P ops ops.toList e h
  | .seq a b => fun e h => match evC cfg call around a e h with
    | some (.normal, e1, h1) => evC cfg call around b e1 h1
    | r => r
  | .cond c a b => fun e h => match ev e c with
    | .bool true => evC cfg call around a e h
    | .bool false => evC cfg call around b e h
    | _ => none
  | .block id b => fun e h => match evC cfg call around b e h with
    | some (.exit i, e1, h1) => if i = id then some (.normal, e1, h1) else some (.exit i, e1, h1)
    | r => r
  | .loop b => iter (evC cfg call around b) cfg.R
  | .rangeFunc f params assign body => evRange call around f params assign body
  | .exit id => fun e h => some (.exit id, e, h)
  | .ret => fun e h => some (.ret, e, h)
  | _ => fun _ _ => none

def envOf (args : List Value) : Env := fun t => args.getD t undef
def evResult (P : Program) (e : Env) (h : Heap) : ResultVar → Option Value
  | .tmp t => some (e t)
  | .cell a t => evLoad P t (e a) h
def evResultList (P : Program) (e : Env) (h : Heap) : List ResultVar → Option (List Value)
  | [] => some []
  | r :: rs => match evResult P e h r with
    | some v => (evResultList P e h rs).map fun l => v :: l
    | none => none
def packR : List Value → Value
  | [v] => v
  | l => .tuple l.toArray
def evBody (P : Program) (rec : Option Nat → Code → Ev) (fn : Func) (args : List Value) (h : Heap) : Option (Rs × Heap) :=
  match fn.body with
  | some c => match rec none c (envOf args) h with
    | some (.normal, e', h') => (evResultList P e' h' fn.results.toList).map fun l => (.ok (packR l), h')
    | some (.ret, e', h') => (evResultList P e' h' fn.results.toList).map fun l => (.ok (packR l), h')
    | some (.pan v, _, h') => some (.pan v, h')
    | _ => none
  | none => none
def bindE : Env → List Tmp → List Value → Env
  | e, t :: ts, a :: as => bindE (upd e t a) ts as
  | e, _, _ => e
def evRound (rec : Option Nat → Code → Ev) (l : Nat) (args : List Value) (h : Heap) : Option (Rs × Heap) :=
  match h.obj l with
  | some (.loop L) =>
    if L.state = .ready ∧ args.length = L.params.size then
      match rec (some l) L.assign (bindE L.tmps L.params.toList args) h with
      | some (.normal, e1, h1) => match h1.obj l with
        | some (.loop L1) =>
          if L1.state = .ready then
            match rec (some l) L.body e1 (h1.put l (some (.loop { L1 with state := .busy }))) with
            | some (x, _, h2) => match h2.obj l with
              | some (.loop L2) => match x with
                | .normal => some (.ok (.bool true), h2.put l (some (.loop { L2 with state := .ready, pending := none })))
                | .exit id => some (.ok (.bool false), h2.put l (some (.loop { L2 with state := .done, pending := some (.exit id) })))
                | .ret => some (.ok (.bool false), h2.put l (some (.loop { L2 with state := .done, pending := some .ret })))
                | .pan _ => none
              | _ => none
            | none => none
          else none
        | _ => none
      | _ => none
    else none
  | _ => none
/-- A function of plain data alone: it is run apart, and leaves the heap as it was. -/
def isoPhi (φ : Phi) : Phi := fun args h =>
  if args.all (closedV 8) = true then
    match φ args ⟨fun _ => none, 0⟩ with
    | some (.ok v, _) => if closedV 8 v = true then some (.ok v, h) else none
    | _ => none
  else none
def evCall (cfg : Cfg) (rec : Option Nat → Code → Ev) (f : Value) (args : List Value) (h : Heap) : Option (Rs × Heap) :=
  match f with
  | .func (.func k) first cap => match cfg.spec k with
    | some φ => φ (first.toList ++ args ++ cap.toList) h
    | none => if cfg.inl k = true then
        match cfg.P.funcs[k]? with
        | some fn => if cfg.iso k = true then isoPhi (evBody cfg.P rec fn) (first.toList ++ args ++ cap.toList) h else evBody cfg.P rec fn (first.toList ++ args ++ cap.toList) h
        | none => none
      else none
  | .func (.yield l) _ _ => evRound rec l args h
  | _ => none
noncomputable def evD (cfg : Cfg) : Nat → Option Nat → Code → Ev
  | 0 => fun _ _ _ _ => none
  | d + 1 => evC cfg (evCall cfg (evD cfg d))
noncomputable def evF (cfg : Cfg) (d : Nat) (f : FuncId) : Phi := fun args h =>
  match cfg.P.funcs[f]? with
  | some fn => evBody cfg.P (evD cfg d) fn args h
  | none => none

/-! What is shown. -/
def RsRel (μ : Mu) : Rs → Ending → Prop
  | .ok v, .returned v' => VR μ v v'
  | .pan v, .panicked ch => ∃ v', ch = [{ v := v', recovered := false }] ∧ VR μ v v'
  | _, _ => False
def SimF (P : Program) (f : FuncId) (φ : Phi) : Prop :=
  ∀ μ h w args args' r h', Rel μ h w → Fresh μ h → VRL μ args args' → φ args h = some (r, h') →
    Calls P f args'.toArray w fun e w' => ∃ μ', Step μ μ' h h' w w' ∧ RsRel μ' r e
def goodFn (fn : Func) : Bool := match fn.body with
  | some c => goodCode fn.ntmps c
  | none => false
structure CfgOk (cfg : Cfg) : Prop where
  prog : ProgOk cfg.P
  spec : ∀ f φ, cfg.spec f = some φ → SimF cfg.P f φ
  body : ∀ f φ, cfg.spec f = some φ → ∃ fn, cfg.P.funcs[f]? = some fn ∧ (fn.name == "runtime.NumGoroutine") = false ∧ fn.body.isNone = false
  inl : ∀ f, cfg.inl f = true → ∃ fn, cfg.P.funcs[f]? = some fn ∧ goodFn fn = true ∧ (fn.name == "runtime.NumGoroutine") = false ∧ fn.body.isNone = false
  calm : ∀ f, cfg.calm f = true → cfg.spec f = none ∧ cfg.iso f = true

/-- The calls of functions that are run apart hang on no heap. -/
def CalmOk (call : Value → Phi) (calm : FuncId → Bool) : Prop := ∀ k first cap args h g, calm k = true → call (.func (.func k) first cap) args g = (call (.func (.func k) first cap) args h).map fun r => (r.1, g)

def MarksOk (B0 : Nat) (μ : Mu) (h : Heap) (w : World) (ds : List Deferred) : Prop :=
  ∃ rs : List Nat, ds = rs.map (fun r => { target := .collected r, args := #[] }) ∧ rs.Nodup ∧
    ∀ r ∈ rs, B0 ≤ r ∧ w.heap[r]? = some (.deferred (some [])) ∧ ∀ b m, μ b = some m → (h.obj b).isSome = true → m.B ≠ r
theorem MarksOk.nil (B0 : Nat) (μ : Mu) (h : Heap) (w : World) : MarksOk B0 μ h w [] := ⟨[], rfl, List.nodup_nil, by simp⟩
theorem MarksOk.step {B0 : Nat} {μ μ' : Mu} {h h' : Heap} {w w' : World} {ds : List Deferred} (hm : MarksOk B0 μ h w ds) (hf : Fresh μ h) (s : Step μ μ' h h' w w') : MarksOk B0 μ' h' w' ds := by
  obtain ⟨rs, rfl, hn, hr⟩ := hm
  refine ⟨rs, rfl, hn, fun r hrm => ?_⟩
  obtain ⟨h0, hb, hno⟩ := hr r hrm
  have hlt : r < w.heap.size := (Array.getElem?_eq_some_iff.1 hb).1
  refine ⟨h0, by rw [s.pres.block r hlt fun b m h1 h2 _ => hno b m h1 h2]; exact hb, fun b m h1 h2 => ?_⟩
  rcases s.new b m h1 with h3 | ⟨_, h4 | ⟨b0, m0, h5, h6, _, h7⟩⟩
  · exact hno b m h3 (s.live b (hf.lt h3) h2)
  · omega
  · rw [← h7]; exact hno b0 m0 h5 h6

def Arr (P : Program) (M : Machine) (b : Frame) (k : List Item) (cs : List Frame) (μ : Mu) : X → Act → World → Prop
  | .normal, a, w => Steps P M (lone (b.atR a k) cs w)
  | .exit id, a, w => ∃ k1, exitTo id k1 = exitTo id k ∧ Steps P M (lone (b.atR a (.code (.exit id) :: k1)) cs w)
  | .ret, a, w => ∃ k1, Steps P M (lone (b.atR a (.code .ret :: k1)) cs w)
  | .pan v, a, w => ∃ k1 v', VR μ v v' ∧ Steps P M (lone { b.atR a k1 with mode := .panicking [{ v := v', recovered := false }] } cs w)
theorem Arr.of_steps {P : Program} {M M1 : Machine} {b : Frame} {k : List Item} {cs : List Frame} {μ : Mu} {x : X} {a : Act} {w : World} (h : Steps P M M1) (h' : Arr P M1 b k cs μ x a w) : Arr P M b k cs μ x a w := by
  cases x with
  | normal => exact h.trans h'
  | exit id => obtain ⟨k1, e, s⟩ := h'; exact ⟨k1, e, h.trans s⟩
  | ret => obtain ⟨k1, s⟩ := h'; exact ⟨k1, h.trans s⟩
  | pan v => obtain ⟨k1, v', r, s⟩ := h'; exact ⟨k1, v', r, h.trans s⟩

/-- What a run from 'M' in a frame comes to. -/
def Goes (P : Program) (B0 : Nat) (μ : Mu) (h : Heap) (w : World) (n : Nat) (M : Machine) (b : Frame) (k : List Item) (cs : List Frame) (x : X) (e' : Env) (h' : Heap) : Prop :=
  ∃ μ' w' a', Step μ μ' h h' w w' ∧ EnvR μ' e' a'.tmps ∧ a'.tmps.size = n ∧ MarksOk B0 μ' h' w' a'.defers ∧ Arr P M b k cs μ' x a' w'
def RoundR (μ : Mu) (around : Option Nat) (r : Option Nat) : Prop :=
  (around = none ∧ r = none) ∨ ∃ la m, around = some la ∧ μ la = some m ∧ r = some m.B
theorem RoundR.mono {μ μ' : Mu} (hx : Ext μ μ') {a r : Option Nat} (h : RoundR μ a r) : RoundR μ' a r := by
  rcases h with h | ⟨la, m, h1, h2, h3⟩
  · exact .inl h
  · exact .inr ⟨la, m, h1, hx _ _ h2, h3⟩
def CodeSound (P : Program) (around : Option Nat) (c : Code) (f : Ev) : Prop :=
  ∀ e h x e' h', f e h = some (x, e', h') → ∀ μ w a b k cs B0, RoundR μ around b.roundOf → Rel μ h w → Fresh μ h → EnvR μ e a.tmps → goodCode a.tmps.size c = true → MarksOk B0 μ h w a.defers → B0 ≤ w.heap.size →
    Goes P B0 μ h w a.tmps.size (lone (b.atR a (.code c :: k)) cs w) b k cs x e' h'
def CallRes (P : Program) (μ : Mu) (fr c : Frame) (cs : List Frame) (w w' : World) : Rs → Prop
  | .ok v => ∃ v', VR μ v v' ∧ Steps P (lone fr (c :: cs) w) (lone (c.finish v') cs w')
  | .pan v => ∃ v', VR μ v v' ∧ Steps P (lone fr (c :: cs) w) (lone (c.raise [{ v := v', recovered := false }]) cs w')
/-- A call (of a function, of yield): what becomes of the caller. -/
def CallSound (P : Program) (call : Value → Phi) : Prop :=
  ∀ f args h r h', call f args h = some (r, h') → ∀ μ w f' args', Rel μ h w → Fresh μ h → VR μ f f' → VRL μ args args' →
    ∃ nx fr, (do let d ← Deferred.ofValue f' args'.toArray; invoke d.target d.args : Sem Next).run P w = .ok nx w ∧
      ((∃ g as, nx = .enter g as ∧ fr = Frame.enter P g as .normal) ∨ isFunc f = false ∧ ∃ l g ts a b, nx = .round l g ts a b ∧ fr = Frame.round l g ts a b .normal) ∧
      ∀ (c : Frame) cs, ∃ μ' w', Step μ μ' h h' w w' ∧ CallRes P μ' fr c cs w w' r
end Go.Proofs.Ytfehhihllenjiaa
