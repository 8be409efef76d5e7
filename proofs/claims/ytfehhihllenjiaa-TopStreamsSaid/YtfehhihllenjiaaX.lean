/- Runs, said by what holds behind them. -/
import Derived.Test.YtfehhihllenjiaaW
set_option linter.all false
namespace Go.Proofs.Ytfehhihllenjiaa

/-- The evaluator, for the plain configuration. -/
noncomputable def evS (P : Program) (R : Nat) (call : Value → Phi) (around : Option Nat) : Code → Ev
  | .skip => fun e h => some (.normal, e, h)
  | .region _ ops draw => fun e h => if draw = true then drawE (isoOf P) call P ops e h else evOps call P ops ops.toList e h
  | .seq a b => fun e h => match evS P R call around a e h with
    | some (.normal, e1, h1) => evS P R call around b e1 h1
    | r => r
  | .cond c a b => fun e h => match ev e c with
    | .bool true => evS P R call around a e h
    | .bool false => evS P R call around b e h
    | _ => none
  | .block id b => fun e h => match evS P R call around b e h with
    | some (.exit i, e1, h1) => if i = id then some (.normal, e1, h1) else some (.exit i, e1, h1)
    | r => r
  | .loop b => iter (evS P R call around b) R
  | .rangeFunc f params assign body => evRange call around f params assign body
  | .exit id => fun e h => some (.exit id, e, h)
  | .ret => fun e h => some (.ret, e, h)
  | _ => fun _ _ => none
theorem evC_eq_evS {P : Program} {call : Value → Phi} {around : Option Nat} : ∀ c, evC (cfg0 P) call around c = evS P (2 ^ 40) call around c
  | .region _ ops draw => rfl
  | .seq a b => by
    funext e hh
    simp only [evC, evS, evC_eq_evS a, evC_eq_evS b]
    rfl
  | .cond c a b => by
    funext e hh
    simp only [evC, evS, evC_eq_evS a, evC_eq_evS b]
    rfl
  | .block _ b => by
    funext e hh
    simp only [evC, evS, evC_eq_evS b]
    rfl
  | .loop b => by
    simp only [evC, evS, evC_eq_evS b]
    rfl
  | .skip | .rangeFunc .. | .exit _ | .ret => rfl
  | .label .. | .scope _ | .goto .. | .refuse .. => rfl

abbrev Post := X → Env → Heap → Prop
def W (o : Option (X × Env × Heap)) (Q : Post) : Prop := ∃ x e h, o = some (x, e, h) ∧ Q x e h
def seqQ (k : Env → Heap → Prop) (Q : Post) : Post
  | .normal, e, h => k e h
  | .exit i, e, h => Q (.exit i) e h
  | .ret, e, h => Q .ret e h
  | .pan v, e, h => Q (.pan v) e h
def blockQ (id : Nat) (Q : Post) : Post
  | .normal, e, h => Q .normal e h
  | .exit i, e, h => if i = id then Q .normal e h else Q (.exit i) e h
  | .ret, e, h => Q .ret e h
  | .pan v, e, h => Q (.pan v) e h
def normQ (Q : Post) : Post
  | .normal, e, h => Q .normal e h
  | _, _, _ => False
def condV (c : Value) (x y : Option (X × Env × Heap)) : Option (X × Env × Heap) :=
  match c with
  | .bool true => x
  | .bool false => y
  | _ => none
def opK (r : Option (Rs × Heap)) (k : Value → Heap → Option (X × Env × Heap)) (e : Env) : Option (X × Env × Heap) :=
  match r with
  | some (.ok v, h) => k v h
  | some (.pan v, h) => some (.pan v, e, h)
  | none => none
def evO (call : Value → Phi) (P : Program) (e : Env) (h : Heap) (op : Op) : Option (Rs × Heap) := evOp call P e h ⟨none, op, 0, "", #[], none⟩

section
variable {P : Program} {R : Nat} {call : Value → Phi} {ar : Option Nat} {e : Env} {h : Heap} {Q : Post}
theorem W_some {x : X} : W (some (x, e, h)) Q ↔ Q x e h :=
  ⟨fun ⟨_, _, _, h1, h2⟩ => by cases h1; exact h2, fun hq => ⟨_, _, _, rfl, hq⟩⟩
theorem W_skip : W (evS P R call ar .skip e h) Q ↔ Q .normal e h := W_some
theorem W_exit {i : Nat} : W (evS P R call ar (.exit i) e h) Q ↔ Q (.exit i) e h := W_some
theorem W_ret : W (evS P R call ar .ret e h) Q ↔ Q .ret e h := W_some
theorem W_seq {a b : Code} : W (evS P R call ar (.seq a b) e h) Q ↔ W (evS P R call ar a e h) (seqQ (fun e h => W (evS P R call ar b e h) Q) Q) := by
  constructor
  · rintro ⟨x, e1, h1, h2, h3⟩
    simp only [evS] at h2
    split at h2
    · rename_i e2 h4 heq
      exact ⟨.normal, e2, h4, heq, x, e1, h1, h2, h3⟩
    · rename_i hn
      refine ⟨x, e1, h1, h2, ?_⟩
      cases x with
      | normal => exact absurd h2 (hn _ _)
      | _ => exact h3
  · rintro ⟨x, e1, h1, h2, h3⟩
    cases x with
    | normal =>
      obtain ⟨x2, e2, h4, h5, h6⟩ := h3
      exact ⟨x2, e2, h4, by simp only [evS, h2, h5], h6⟩
    | _ => exact ⟨_, e1, h1, by simp only [evS, h2], h3⟩
theorem W_block {id : Nat} {b : Code} : W (evS P R call ar (.block id b) e h) Q ↔ W (evS P R call ar b e h) (blockQ id Q) := by
  constructor
  · rintro ⟨x, e1, h1, h2, h3⟩
    simp only [evS] at h2
    split at h2
    · rename_i i e2 h4 heq
      refine ⟨.exit i, e2, h4, heq, ?_⟩
      split at h2
      · rename_i hi
        cases h2
        simp only [blockQ, hi, if_true]; exact h3
      · rename_i hi
        cases h2
        simp only [blockQ, hi, if_false]; exact h3
    · rename_i hn
      refine ⟨x, e1, h1, h2, ?_⟩
      cases x with
      | exit i => exact absurd h2 (hn _ _ _)
      | _ => exact h3
  · rintro ⟨x, e1, h1, h2, h3⟩
    cases x with
    | exit i =>
      by_cases hi : i = id
      · simp only [blockQ, hi, if_true] at h3
        exact ⟨.normal, e1, h1, by simp [evS, h2, hi], h3⟩
      · simp only [blockQ, hi, if_false] at h3
        exact ⟨.exit i, e1, h1, by simp [evS, h2, hi], h3⟩
    | _ => exact ⟨_, e1, h1, by simp only [evS, h2], h3⟩
theorem S_cond {c : Operand} {a b : Code} : evS P R call ar (.cond c a b) e h = condV (ev e c) (evS P R call ar a e h) (evS P R call ar b e h) := by
  rfl
theorem condV_bool (t : Bool) (x y : Option (X × Env × Heap)) : condV (.bool t) x y = if t = true then x else y := by cases t <;> rfl
theorem W_if {p : Prop} [Decidable p] {x y : Option (X × Env × Heap)} : W (if p then x else y) Q ↔ (p → W x Q) ∧ (¬ p → W y Q) := by
  by_cases hp : p <;> simp [hp]
theorem S_region {id : Nat} {ops : List Oper} : evS P R call ar (.region id ⟨ops⟩ false) e h = evOps call P ⟨ops⟩ ops e h := rfl
theorem W_norm {o : Option (X × Env × Heap)} (hw : W o (normQ Q)) : W (normalOnly o) Q := by
  obtain ⟨x, e1, h1, h2, h3⟩ := hw
  cases x with
  | normal => exact ⟨_, _, _, by rw [h2]; rfl, h3⟩
  | _ => exact h3.elim
theorem W_draw {id : Nat} {ops : List Oper} (hd : drawOk (isoOf P) ⟨ops⟩ = true) (hw : W (evOps call P ⟨ops⟩ ops e h) (normQ Q)) : W (evS P R call ar (.region id ⟨ops⟩ true) e h) Q := by
  have e1 : evS P R call ar (.region id ⟨ops⟩ true) e h = normalOnly (evOps call P ⟨ops⟩ ops e h) := by
    show drawE (isoOf P) call P ⟨ops⟩ e h = _
    unfold drawE
    rw [if_pos hd]
  rw [e1]; exact W_norm hw
theorem W_drawF {id : Nat} {ops : List Oper} (F : List Nat) (S : Nat → Prop) (hd : drawOkF (isoOf P) ⟨ops⟩ F = true) (hr : RunOk call P (isoOf P) ⟨ops⟩ F S 0 ops e h) (hw : W (evOps call P ⟨ops⟩ ops e h) (normQ Q)) : W (evS P R call ar (.region id ⟨ops⟩ true) e h) Q := by
  have e1 : evS P R call ar (.region id ⟨ops⟩ true) e h = normalOnly (evOps call P ⟨ops⟩ ops e h) := by
    show drawE (isoOf P) call P ⟨ops⟩ e h = _
    unfold drawE
    by_cases hs : drawOk (isoOf P) ⟨ops⟩ = true
    · rw [if_pos hs]
    · rw [if_neg hs, if_pos ⟨F, S, hd, hr⟩]
  rw [e1]; exact W_norm hw
theorem ops_nil {all : Array Oper} : evOps call P all [] e h = some (.normal, e, h) := rfl
theorem ops_free {all : Array Oper} {dst : Option Tmp} {op : Op} {ty : TypeId} {pos : String} {af : Array Edge} {l : List Oper} :
    evOps call P all (⟨dst, op, ty, pos, af, none⟩ :: l) e h = opK (evO call P e h op) (fun v h => evOps call P all l (putE e dst v) h) e := by
  have e1 : evOp call P e h ⟨dst, op, ty, pos, af, none⟩ = evO call P e h op := rfl
  simp only [evOps, wantedA, if_true, e1, opK]
  rfl
theorem ops_guard {all : Array Oper} {dst : Option Tmp} {op : Op} {ty : TypeId} {pos : String} {af : Array Edge} {j : Nat} {want : Bool} {l : List Oper} :
    evOps call P all (⟨dst, op, ty, pos, af, some (j, want)⟩ :: l) e h = if (yieldedA all e j == some want) = true then opK (evO call P e h op) (fun v h => evOps call P all l (putE e dst v) h) e else evOps call P all l (putE e dst undef) h := by
  have e1 : evOp call P e h ⟨dst, op, ty, pos, af, some (j, want)⟩ = evO call P e h op := rfl
  simp only [evOps, wantedA, e1, opK]
  rfl
theorem opK_ok {v : Value} {k : Value → Heap → Option (X × Env × Heap)} : opK (some (.ok v, h)) k e = k v h := rfl
theorem upd_apply {α : Type} (f : Nat → α) (a : Nat) (b : α) (x : Nat) : upd f a b x = if x = a then b else f x := rfl
theorem put_some {d : Nat} {v : Value} : putE e (some d) v = upd e d v := rfl
theorem put_none {v : Value} : putE e none v = e := rfl
theorem ev_tmp {t : Nat} : ev e (.tmp t) = e t := rfl
theorem ev_const {v : Value} : ev e (.const v) = v := rfl
theorem ev_func {f : FuncId} : ev e (.func f) = .func (.func f) #[] #[] := rfl
theorem iter_pos {f : Ev} {n : Nat} (hn : 0 < n) : iter f n e h = match f e h with
    | some (.normal, e', h') => iter f (n - 1) e' h'
    | r => r := by
  cases n with
  | zero => omega
  | succ n => rfl
end

section
variable {P : Program} {R : Nat} {call : Value → Phi} {ar : Option Nat} {e : Env} {h : Heap} {Q : Post}
theorem S_loop {b : Code} : evS P R call ar (.loop b) e h = iter (evS P R call ar b) R e h := rfl
theorem W_iter {f : Ev} {n : Nat} (hn : 0 < n) : W (iter f n e h) Q ↔ W (f e h) (seqQ (fun e h => W (iter f (n - 1) e h) Q) Q) := by
  rw [iter_pos hn]
  constructor
  · rintro ⟨x, e1, h1, h2, h3⟩
    split at h2
    · rename_i e2 h4 heq
      exact ⟨.normal, e2, h4, heq, x, e1, h1, h2, h3⟩
    · rename_i hn
      refine ⟨x, e1, h1, h2, ?_⟩
      cases x with
      | normal => exact absurd h2 (hn _ _)
      | _ => exact h3
  · rintro ⟨x, e1, h1, h2, h3⟩
    cases x with
    | normal =>
      obtain ⟨x2, e2, h4, h5, h6⟩ := h3
      exact ⟨x2, e2, h4, by simp only [h2, h5], h6⟩
    | _ => exact ⟨_, e1, h1, by simp only [h2], h3⟩
/-- A loop: what holds ahead of each round. -/
theorem W_loop {b : Code} (I : Nat → Env → Heap → Prop) (n : Nat) (hn : n < R) (h0 : I 0 e h)
    (hs : ∀ k, k < n → ∀ e h, I k e h → W (evS P R call ar b e h) fun x e h => x = .normal ∧ I (k + 1) e h)
    (he : ∀ e h, I n e h → W (evS P R call ar b e h) fun x e h => x ≠ .normal ∧ Q x e h) : W (evS P R call ar (.loop b) e h) Q := by
  rw [S_loop]
  have main : ∀ m k e h, m + k = n → ∀ R', m < R' → I k e h → W (iter (evS P R call ar b) R' e h) Q := by
    intro m
    induction m with
    | zero =>
      intro k e h hk R' hR hI
      rw [W_iter hR]
      obtain ⟨x, e1, h1, h2, h3, h4⟩ := he e h (by have : k = n := by omega
                                                   exact this ▸ hI)
      refine ⟨x, e1, h1, h2, ?_⟩
      cases x with
      | normal => exact absurd rfl h3
      | _ => exact h4
    | succ m ih =>
      intro k e h hk R' hR hI
      rw [W_iter (by omega)]
      obtain ⟨x, e1, h1, h2, rfl, h4⟩ := hs k (by omega) e h hI
      exact ⟨_, e1, h1, h2, ih (k + 1) e1 h1 (by omega) (R' - 1) (by omega) h4⟩
  exact main n 0 e h rfl R hn h0
theorem W.mono {o : Option (X × Env × Heap)} {Q Q' : Post} (hw : W o Q) (hq : ∀ x e h, Q x e h → Q' x e h) : W o Q' := by
  obtain ⟨x, e, h, h1, h2⟩ := hw
  exact ⟨x, e, h, h1, hq _ _ _ h2⟩
end

/-! the order of rewriting: what is reckoned first -/
@[congr] theorem W_congr {o o' : Option (X × Env × Heap)} {Q : Post} (h : o = o') : W o Q = W o' Q := by rw [h]
@[congr] theorem opK_congr {r r' : Option (Rs × Heap)} {k : Value → Heap → Option (X × Env × Heap)} {e : Env} (h : r = r') : opK r k e = opK r' k e := by rw [h]
@[congr] theorem condV_congr {c c' : Value} {x y : Option (X × Env × Heap)} (h : c = c') : condV c x y = condV c' x y := by rw [h]
@[congr] theorem seqQ_congr {k : Env → Heap → Prop} {Q : Post} {x x' : X} {e : Env} {h : Heap} (hx : x = x') : seqQ k Q x e h = seqQ k Q x' e h := by rw [hx]
@[congr] theorem blockQ_congr {id : Nat} {Q : Post} {x x' : X} {e : Env} {h : Heap} (hx : x = x') : blockQ id Q x e h = blockQ id Q x' e h := by rw [hx]
@[congr] theorem normQ_congr {Q : Post} {x x' : X} {e : Env} {h : Heap} (hx : x = x') : normQ Q x e h = normQ Q x' e h := by rw [hx]
@[congr] theorem evOps_congr {call : Value → Phi} {P : Program} {all : Array Oper} {l : List Oper} {e : Env} {h h' : Heap} (hh : h = h') : evOps call P all l e h = evOps call P all l e h' := by rw [hh]
@[congr] theorem evS_congr {call : Value → Phi} {P : Program} {R : Nat} {ar : Option Nat} {c : Code} {e : Env} {h h' : Heap} (hh : h = h') : evS P R call ar c e h = evS P R call ar c e h' := by rw [hh]
theorem upd_same' {α : Type} (f : Nat → α) (a : Nat) (b : α) : upd f a b a = b := if_pos rfl
theorem envOf0 (a : Value) (l : List Value) : envOf (a :: l) 0 = a := rfl
theorem envOf1 (a b : Value) (l : List Value) : envOf (a :: b :: l) 1 = b := rfl
theorem envOf2 (a b c : Value) (l : List Value) : envOf (a :: b :: c :: l) 2 = c := rfl
theorem envOf3 (a b c d : Value) (l : List Value) : envOf (a :: b :: c :: d :: l) 3 = d := rfl
theorem envOf4 (a b c d e : Value) (l : List Value) : envOf (a :: b :: c :: d :: e :: l) 4 = e := rfl
theorem envOf5 (a b c d e f : Value) (l : List Value) : envOf (a :: b :: c :: d :: e :: f :: l) 5 = f := rfl

/-! operation by operation -/
section
variable {P : Program} {call : Value → Phi} {e : Env} {h : Heap}
def okV (r : Option Value) (h : Heap) : Option (Rs × Heap) := r.map fun v => (.ok v, h)
def okVH (r : Option (Value × Heap)) : Option (Rs × Heap) := r.map fun r => (.ok r.1, r.2)
theorem okV_some {v : Value} : okV (some v) h = some (.ok v, h) := rfl
theorem okVH_some {v : Value} : okVH (some (v, h)) = some (.ok v, h) := rfl
theorem op_move {x : Operand} : evO call P e h (.move x) = some (.ok (ev e x), h) := rfl
theorem op_assign {x : Operand} : evO call P e h (.assign x) = some (.ok (ev e x), h) := rfl
def pickV (c x y : Value) : Option Value :=
  match c with
  | .bool t => some (if t then x else y)
  | _ => none
theorem pickV_true {x y : Value} : pickV (.bool true) x y = some x := rfl
theorem pickV_false {x y : Value} : pickV (.bool false) x y = some y := rfl
theorem pickV_bool {t u v : Bool} : pickV (.bool t) (.bool u) (.bool v) = some (.bool (if t then u else v)) := by cases t <;> rfl
theorem op_pick {c x y : Operand} : evO call P e h (.pick c x y) = okV (pickV (ev e c) (ev e x) (ev e y)) h := by
  simp only [evO, evOp, evPlain, pickV, okV]
  cases ev e c <;> rfl
theorem op_alloc {t : TypeId} : evO call P e h (.alloc t) = okVH (evAlloc P t h) := rfl
theorem op_box {t : TypeId} {x : Operand} : evO call P e h (.box t x) = okVH (evBox (ev e x) h) := rfl
theorem op_build {t : TypeId} {parts : Array (Nat × Operand)} : evO call P e h (.build t parts) = okV (evBuild P t (parts.toList.map fun p => (p.1, ev e p.2))) h := by
  simp only [evO, evOp, evPlain, okV, Option.map_map]; rfl
theorem op_buildSlice {t : TypeId} {n : Nat} {parts : Array (Nat × Operand)} : evO call P e h (.buildSlice t n parts) = okVH (evBuildSlice P t n (parts.toList.map fun p => (p.1, ev e p.2)) h) := rfl
theorem op_load {t : TypeId} {x : Operand} : evO call P e h (.load t x) = okV (evLoad P t (ev e x) h) h := by
  simp only [evO, evOp, evPlain, okV, Option.map_map]; rfl
def okH (r : Option Heap) : Option (Rs × Heap) := r.map fun h => (.ok undef, h)
theorem okH_some : okH (some h) = some (.ok undef, h) := rfl
theorem op_store {t : TypeId} {a x : Operand} : evO call P e h (.store t a x) = okH (evStore P t (ev e a) (ev e x) h) := by
  simp only [evO, evOp, evPlain, okH, Option.map_map]; rfl
theorem op_nilCheck {x : Operand} : evO call P e h (.nilCheck x) = okV (evNil (ev e x)) h := by
  simp only [evO, evOp, evPlain, okV, Option.map_map]; rfl
theorem op_binOp {op : BinOp} {t u : TypeId} {x y : Operand} : evO call P e h (.binOp op t x y u) = okV (evBin P op t (Region.isConst x || Region.isConst y) (ev e x) (ev e y)) h := by
  simp only [evO, evOp, evPlain, okV, Option.map_map]; rfl
theorem op_unOp {op : UnOp} {t : TypeId} {x : Operand} : evO call P e h (.unOp op t x) = okV (evUn op (ev e x)) h := by
  simp only [evO, evOp, evPlain, okV, Option.map_map]; rfl
theorem op_convert {s d : TypeId} {x : Operand} : evO call P e h (.convert s d x) = okVH (evConvert P s d (ev e x) h) := rfl
theorem op_toArr {t : TypeId} {x : Operand} : evO call P e h (.sliceToArrayPointer t x) = okV (evToArr P t (ev e x)) h := by
  simp only [evO, evOp, evPlain, okV, Option.map_map]; rfl
theorem op_makeFunc {f : FuncId} {a c : Array Operand} : evO call P e h (.makeFunc (.func f) a c) = some (.ok (.func (.func f) (a.toList.map (ev e)).toArray (c.toList.map (ev e)).toArray), h) := rfl
theorem op_makeSlice {t : TypeId} {l c : Operand} : evO call P e h (.makeSlice t l c) = okVH (evMakeSlice P t (ev e l) (ev e c) h) := rfl
theorem op_slice {t : TypeId} {x : Operand} {lo hi mx : Option Operand} : evO call P e h (.slice t x lo hi mx) = okV (evSlice P t (ev e x) (lo.map (ev e)) (hi.map (ev e)) (mx.map (ev e)) h) h := by
  simp only [evO, evOp, evPlain, okV, Option.map_map]; rfl
theorem op_fieldAddr {t : TypeId} {x : Operand} {f : Nat} : evO call P e h (.fieldAddr t x f) = okV (evFieldAddr P t (ev e x) f) h := by
  simp only [evO, evOp, evPlain, okV, Option.map_map]; rfl
theorem op_field {t : TypeId} {x : Operand} {f : Nat} : evO call P e h (.field t x f) = okV (evField P t (ev e x) f) h := by
  simp only [evO, evOp, evPlain, okV, Option.map_map]; rfl
theorem op_indexAddr {t : TypeId} {x i : Operand} : evO call P e h (.indexAddr t x i) = okV (evIndexAddr P t (ev e x) (ev e i)) h := by
  simp only [evO, evOp, evPlain, okV, Option.map_map]; rfl
theorem op_index {t : TypeId} {x i : Operand} : evO call P e h (.index t x i) = okV (evIndex P t (ev e x) (ev e i)) h := by
  simp only [evO, evOp, evPlain, okV, Option.map_map]; rfl
theorem op_extract {x : Operand} {k : Nat} : evO call P e h (.extract x k) = okV (evExtract (ev e x) k) h := by
  simp only [evO, evOp, evPlain, okV, Option.map_map]; rfl
theorem op_call {f : Operand} {args : Array Operand} {ts : Array TypeId} : evO call P e h (.call ⟨.value f, args, ts⟩) = call (ev e f) (args.toList.map (ev e)) h := rfl
theorem op_len {args : Array Operand} {t : TypeId} : evO call P e h (.call ⟨.builtin .len, args, #[t]⟩) = okVH (evBuiltin P .len [t] (args.toList.map (ev e)) h) := rfl
theorem op_builtin {b : Builtin} {args : Array Operand} {ts : Array TypeId} : evO call P e h (.call ⟨.builtin b, args, ts⟩) = okVH (evBuiltin P b ts.toList (args.toList.map (ev e)) h) := rfl
theorem bi_len {t : TypeId} {x : Value} : evBuiltin P .len [t] [x] h = (evLenB P t x).map fun v => (v, h) := rfl
theorem bi_cap {t : TypeId} {x : Value} : evBuiltin P .cap [t] [x] h = (evCapB P t x h).map fun v => (v, h) := rfl
theorem bi_append {st xt : TypeId} {s x : Value} : evBuiltin P .append [st, xt] [s, x] h = evAppend P st xt s x h := rfl
theorem bi_copy {st xt : TypeId} {s x : Value} : evBuiltin P .copy [st, xt] [s, x] h = evCopy P st s x h := rfl
end

/-! the same, one step at a time -/
section
variable {P : Program} {R : Nat} {call : Value → Phi} {ar : Option Nat} {e : Env} {h h' : Heap} {Q : Post} {all : Array Oper} {l : List Oper} {op : Op} {ty : TypeId} {pos : String} {af : Array Edge} {v : Value}
theorem R_seq {a b : Code} (hw : W (evS P R call ar a e h) (seqQ (fun e h => W (evS P R call ar b e h) Q) Q)) : W (evS P R call ar (.seq a b) e h) Q := W_seq.2 hw
theorem R_block {id : Nat} {b : Code} (hw : W (evS P R call ar b e h) (blockQ id Q)) : W (evS P R call ar (.block id b) e h) Q := W_block.2 hw
theorem R_skip (hq : Q .normal e h) : W (evS P R call ar .skip e h) Q := W_some.2 hq
theorem R_exit {i : Nat} (hq : Q (.exit i) e h) : W (evS P R call ar (.exit i) e h) Q := W_some.2 hq
theorem R_ret (hq : Q .ret e h) : W (evS P R call ar .ret e h) Q := W_some.2 hq
theorem R_region {id : Nat} {ops : List Oper} (hw : W (evOps call P ⟨ops⟩ ops e h) Q) : W (evS P R call ar (.region id ⟨ops⟩ false) e h) Q := hw
theorem R_draw {id : Nat} {ops : List Oper} (hd : drawOk (isoOf P) ⟨ops⟩ = true) (hw : W (evOps call P ⟨ops⟩ ops e h) (normQ Q)) : W (evS P R call ar (.region id ⟨ops⟩ true) e h) Q := W_draw hd hw
def ifQ (t : Bool) (A B : Prop) : Prop := if t = true then A else B
theorem I_true {A B : Prop} (h : A) : ifQ true A B := h
theorem I_false {A B : Prop} (h : B) : ifQ false A B := h
theorem I_dec {p A B : Prop} [Decidable p] (h1 : p → A) (h2 : ¬ p → B) : ifQ (decide p) A B := by
  by_cases hp : p
  · simpa [ifQ, hp] using h1 hp
  · simpa [ifQ, hp] using h2 hp
theorem I_ndec {p A B : Prop} [Decidable p] (h1 : ¬ p → A) (h2 : p → B) : ifQ (!decide p) A B := by
  by_cases hp : p
  · simpa [ifQ, hp] using h2 hp
  · simpa [ifQ, hp] using h1 hp
theorem I_bool {t : Bool} {A B : Prop} (h1 : t = true → A) (h2 : t = false → B) : ifQ t A B := by
  cases t with
  | true => exact h1 rfl
  | false => exact h2 rfl
theorem R_cond {c : Operand} {a b : Code} {t : Bool} (hc : ev e c = .bool t) (hw : ifQ t (W (evS P R call ar a e h) Q) (W (evS P R call ar b e h) Q)) : W (evS P R call ar (.cond c a b) e h) Q := by
  rw [S_cond, hc, condV_bool]
  cases t <;> exact hw
theorem R_iter {b : Code} {n : Nat} (hn : 0 < n) (hw : W (evS P R call ar b e h) (seqQ (fun e h => W (iter (evS P R call ar b) (n - 1) e h) Q) Q)) : W (iter (evS P R call ar b) n e h) Q := (W_iter hn).2 hw
/-- A round, with what is kept of the slots and of the heap. -/
theorem R_iterK {b : Code} {n : Nat} (hn : 0 < n) (ts rs : List Nat) (hw : ∀ e' h', ts.map e' = ts.map e → rs.map h'.obj = rs.map h.obj → h'.nx = h.nx → W (evS P R call ar b e' h') (seqQ (fun e h => W (iter (evS P R call ar b) (n - 1) e h) Q) Q)) : W (iter (evS P R call ar b) n e h) Q := (W_iter hn).2 (hw e h rfl rfl rfl)
theorem R_loop {b : Code} (hw : W (iter (evS P R call ar b) R e h) Q) : W (evS P R call ar (.loop b) e h) Q := hw
theorem R_nil (hq : Q .normal e h) : W (evOps call P all [] e h) Q := W_some.2 hq
theorem R_op {d : Nat} (hv : evO call P e h op = some (.ok v, h')) (hw : W (evOps call P all l (upd e d v) h') Q) : W (evOps call P all (⟨some d, op, ty, pos, af, none⟩ :: l) e h) Q := by
  rw [ops_free, hv]; exact hw
theorem R_op0 (hv : evO call P e h op = some (.ok v, h')) (hw : W (evOps call P all l e h') Q) : W (evOps call P all (⟨none, op, ty, pos, af, none⟩ :: l) e h) Q := by
  rw [ops_free, hv]; exact hw
theorem R_grd {d j : Nat} {want t : Bool} (hy : yieldedA all e j = some t) (hw : ifQ (t == want) (W (evOps call P all (⟨some d, op, ty, pos, af, none⟩ :: l) e h) Q) (W (evOps call P all l (upd e d undef) h) Q)) :
    W (evOps call P all (⟨some d, op, ty, pos, af, some (j, want)⟩ :: l) e h) Q := by
  rw [ops_guard, hy]
  rw [ops_free] at hw
  cases ht : (t == want) with
  | true =>
    rw [ht] at hw
    rw [if_pos (by simpa using ht)]; exact hw
  | false =>
    rw [ht] at hw
    rw [if_neg (by simpa using ht)]; exact hw
theorem R_grd0 {j : Nat} {want t : Bool} (hy : yieldedA all e j = some t) (hw : ifQ (t == want) (W (evOps call P all (⟨none, op, ty, pos, af, none⟩ :: l) e h) Q) (W (evOps call P all l e h) Q)) :
    W (evOps call P all (⟨none, op, ty, pos, af, some (j, want)⟩ :: l) e h) Q := by
  rw [ops_guard, hy]
  rw [ops_free] at hw
  cases ht : (t == want) with
  | true =>
    rw [ht] at hw
    rw [if_pos (by simpa using ht)]; exact hw
  | false =>
    rw [ht] at hw
    rw [if_neg (by simpa using ht)]; exact hw
/-- A call whose end is known in part. -/
theorem R_call {d : Nat} {p : Value → Heap → Prop} (hv : ∃ v h', evO call P e h op = some (.ok v, h') ∧ p v h') (hw : ∀ v h', p v h' → W (evOps call P all l (upd e d v) h') Q) : W (evOps call P all (⟨some d, op, ty, pos, af, none⟩ :: l) e h) Q := by
  obtain ⟨v, h', h1, h2⟩ := hv
  exact R_op h1 (hw v h' h2)
theorem Q_seq {k : Env → Heap → Prop} (hk : k e h) : seqQ k Q .normal e h := hk
theorem Q_seqr {k : Env → Heap → Prop} (hk : Q .ret e h) : seqQ k Q .ret e h := hk
theorem Q_seqx {k : Env → Heap → Prop} {i : Nat} (hk : Q (.exit i) e h) : seqQ k Q (.exit i) e h := hk
theorem Q_norm (hk : Q .normal e h) : normQ Q .normal e h := hk
theorem Q_bl {i : Nat} (hk : Q .normal e h) : blockQ i Q .normal e h := hk
theorem Q_blr {i : Nat} (hk : Q .ret e h) : blockQ i Q .ret e h := hk
theorem Q_blx {i : Nat} (hk : Q .normal e h) : blockQ i Q (.exit i) e h := by simpa [blockQ] using hk
theorem Q_blo {i j : Nat} (hn : (j == i) = false) (hk : Q (.exit j) e h) : blockQ i Q (.exit j) e h := by
  have : ¬ j = i := by simpa using hn
  simpa [blockQ, this] using hk
end

/-! a run with its checks -/
section
variable {P : Program} {R : Nat} {call : Value → Phi} {ar : Option Nat} {e : Env} {h h' : Heap} {Q : Post} {all : Array Oper} {l : List Oper} {op : Op} {ty : TypeId} {pos : String} {af : Array Edge} {v : Value} {F : List Nat} {S : Nat → Prop} {i : Nat}
def WD (call : Value → Phi) (P : Program) (all : Array Oper) (F : List Nat) (S : Nat → Prop) (i : Nat) (l : List Oper) (e : Env) (h : Heap) (Q : Post) : Prop :=
  RunOk call P (isoOf P) all F S i l e h ∧ W (evOps call P all l e h) Q
theorem D_draw {id : Nat} {ops : List Oper} (F : List Nat) (S : Nat → Prop) (hd : drawOkF (isoOf P) ⟨ops⟩ F = true) (hw : WD call P ⟨ops⟩ F S 0 ops e h (normQ Q)) : W (evS P R call ar (.region id ⟨ops⟩ true) e h) Q := W_drawF F S hd hw.1 hw.2
theorem D_nil (hq : Q .normal e h) : WD call P all F S i [] e h Q := ⟨trivial, R_nil hq⟩
theorem evO_at {dst : Option Tmp} {g : Option (Nat × Bool)} : evOp call P e h ⟨dst, op, ty, pos, af, g⟩ = evO call P e h op := rfl
theorem D_op {d : Nat} (hv : evO call P e h op = some (.ok v, h')) (hc : F.contains i = true → chk (isoOf P) S e h h' op) (hw : WD call P all F S (i + 1) l (upd e d v) h' Q) : WD call P all F S i (⟨some d, op, ty, pos, af, none⟩ :: l) e h Q := by
  refine ⟨?_, R_op hv hw.2⟩
  simp only [RunOk, wantedA, if_true, evO_at, hv]
  exact ⟨hc, hw.1⟩
theorem D_op0 (hv : evO call P e h op = some (.ok v, h')) (hc : F.contains i = true → chk (isoOf P) S e h h' op) (hw : WD call P all F S (i + 1) l e h' Q) : WD call P all F S i (⟨none, op, ty, pos, af, none⟩ :: l) e h Q := by
  refine ⟨?_, R_op0 hv hw.2⟩
  simp only [RunOk, wantedA, if_true, evO_at, hv]
  exact ⟨hc, hw.1⟩
theorem D_call {d : Nat} {p : Value → Heap → Prop} (hv : ∃ v h', evO call P e h op = some (.ok v, h') ∧ p v h') (hc : ∀ v h', p v h' → F.contains i = true → chk (isoOf P) S e h h' op) (hw : ∀ v h', p v h' → WD call P all F S (i + 1) l (upd e d v) h' Q) :
    WD call P all F S i (⟨some d, op, ty, pos, af, none⟩ :: l) e h Q := by
  obtain ⟨v, h', h1, h2⟩ := hv
  exact D_op h1 (hc v h' h2) (hw v h' h2)
theorem D_grd {d j : Nat} {want t : Bool} (hy : yieldedA all e j = some t) (hw : ifQ (t == want) (WD call P all F S i (⟨some d, op, ty, pos, af, none⟩ :: l) e h Q) (WD call P all F S (i + 1) l (upd e d undef) h Q)) :
    WD call P all F S i (⟨some d, op, ty, pos, af, some (j, want)⟩ :: l) e h Q := by
  cases ht : (t == want) with
  | true =>
    rw [ht] at hw
    have hw1 : WD call P all F S i (⟨some d, op, ty, pos, af, none⟩ :: l) e h Q := hw
    refine ⟨?_, R_grd hy (by rw [ht]; exact hw1.2)⟩
    have h1 := hw1.1
    simp only [RunOk, wantedA, if_true, evO_at] at h1
    simp only [RunOk, wantedA, hy, evO_at]
    rw [if_pos (by simpa using ht)]
    exact h1
  | false =>
    rw [ht] at hw
    have hw1 : WD call P all F S (i + 1) l (upd e d undef) h Q := hw
    refine ⟨?_, R_grd hy (by rw [ht]; exact hw1.2)⟩
    simp only [RunOk, wantedA, hy]
    rw [if_neg (by simpa using ht)]
    exact hw1.1
theorem chk_load {t : TypeId} {a : Operand} (h1 : ∀ r ∈ rowsOfV (ev e a), S r) : chk (isoOf P) S e h h (.load t a) := ⟨rfl, h1⟩
theorem chk_slice {t : TypeId} {x : Operand} {lo hi mx : Option Operand} (h1 : ∀ r ∈ rowsOfV (ev e x), S r) : chk (isoOf P) S e h h (.slice t x lo hi mx) := ⟨rfl, h1⟩
theorem chk_convert {s d : TypeId} {x : Operand} (h1 : ∀ r ∈ rowsOfV (ev e x), S r) : chk (isoOf P) S e h h (.convert s d x) := ⟨rfl, h1⟩
theorem chk_store {t : TypeId} {a x : Operand} (h1 : ∀ r, S r → r < h.nx → h'.obj r = h.obj r) : chk (isoOf P) S e h h' (.store t a x) := h1
theorem chk_call {f : FuncId} {args : Array Operand} {ts : Array TypeId} (hi : isoOf P f = false) (h1 : ∀ r, S r → r < h.nx → h'.obj r = h.obj r) : chk (isoOf P) S e h h' (.call ⟨.value (.func f), args, ts⟩) := by
  simp only [chk, clsOf, hi]
  exact h1
theorem chk_builtin {b : Builtin} {args : Array Operand} {ts : Array TypeId} (hb : b = .append ∨ b = .copy) (h1 : ∀ r, S r → r < h.nx → h'.obj r = h.obj r) : chk (isoOf P) S e h h' (.call ⟨.builtin b, args, ts⟩) := by
  rcases hb with rfl | rfl <;> exact h1
end

/-! calls and whole functions -/
section
variable {P : Program} {d : Nat} {h : Heap}
def evEnd (P : Program) (rs : List ResultVar) (o : Option (X × Env × Heap)) : Option (Rs × Heap) :=
  match o with
  | some (.normal, e', h') => (evResultList P e' h' rs).map fun l => (.ok (packR l), h')
  | some (.ret, e', h') => (evResultList P e' h' rs).map fun l => (.ok (packR l), h')
  | some (.pan v, _, h') => some (.pan v, h')
  | _ => none
noncomputable def fcall (P : Program) (d : Nat) : Value → Phi := evCall (cfg0 P) (evD (cfg0 P) d)
/-- A function's text, looked at. -/
theorem evF_eq {f : FuncId} {fn : Func} {c : Code} {args : List Value} (hfn : P.funcs[f]? = some fn) (hc : fn.body = some c) :
    evF (cfg0 P) (d + 1) f args h = evEnd P fn.results.toList (evS P (2 ^ 40) (fcall P d) none c (envOf args) h) := by
  have e1 : evD (cfg0 P) (d + 1) none c = evS P (2 ^ 40) (fcall P d) none c := evC_eq_evS c
  show (match P.funcs[f]? with | some fn => evBody P (evD (cfg0 P) (d + 1)) fn args h | none => none) = _
  rw [hfn]
  simp only [evBody, hc, e1]
  rfl
theorem fcall_iso {f : FuncId} {args : List Value} (hi : inlOf P f = true) (hs : isoOf P f = true) : fcall P d (.func (.func f) #[] #[]) args h = isoPhi (evF (cfg0 P) d f) args h := by
  obtain ⟨fn, hfn, _⟩ := inlOf_spec hi
  have e : evF (cfg0 P) d f = evBody P (evD (cfg0 P) d) fn := by funext args h; unfold evF; rw [show (cfg0 P).P.funcs[f]? = some fn from hfn]; rfl
  rw [e]
  simp only [fcall, evCall]
  simp only [cfg0, hi, hfn, hs, if_true]
  simp
theorem fcall_inl {f : FuncId} {args : List Value} (hi : inlOf P f = true) (hs : isoOf P f = false) : fcall P d (.func (.func f) #[] #[]) args h = evF (cfg0 P) d f args h := by
  obtain ⟨fn, hfn, _⟩ := inlOf_spec hi
  have e : evF (cfg0 P) d f = evBody P (evD (cfg0 P) d) fn := by funext args h; unfold evF; rw [show (cfg0 P).P.funcs[f]? = some fn from hfn]; rfl
  rw [e]
  simp only [fcall, evCall]
  simp only [cfg0, hi, hfn, hs, if_true]
  simp
/-- A function that is run apart: what it comes to in an empty heap. -/
theorem isoPhi_eq {φ : Phi} {args : List Value} {v : Value} {h1 : Heap} (hc : args.all (closedV 8) = true) (hv : closedV 8 v = true) (he : φ args ⟨fun _ => none, 0⟩ = some (.ok v, h1)) : isoPhi φ args h = some (.ok v, h) := by
  unfold isoPhi
  rw [if_pos hc, he]
  exact if_pos hv
theorem evEnd_of_W {rs : List ResultVar} {o : Option (X × Env × Heap)} {p : Value → Heap → Prop}
    (hw : W o fun x e' h' => (x = .normal ∨ x = .ret) ∧ ∃ l, evResultList P e' h' rs = some l ∧ p (packR l) h') : ∃ v h', evEnd P rs o = some (.ok v, h') ∧ p v h' := by
  obtain ⟨x, e', h', rfl, hx, l, hl, hp⟩ := hw
  refine ⟨packR l, h', ?_, hp⟩
  rcases hx with rfl | rfl <;> simp [evEnd, hl]
end
attribute [irreducible] evS evO seqQ blockQ normQ condV W fcall ifQ WD
end Go.Proofs.Ytfehhihllenjiaa
