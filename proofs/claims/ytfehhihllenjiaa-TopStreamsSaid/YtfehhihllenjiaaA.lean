/- Abstract values and heaps: the relation between an abstract run and the run of the model. -/
import Derived.Calls
import Derived.Laws.Sem
import Derived.Laws.World
import Derived.Laws.Cells
set_option linter.all false
namespace Go.Proofs.Ytfehhihllenjiaa

def upd {α : Type} (f : Nat → α) (a : Nat) (b : α) : Nat → α := fun x => if x = a then b else f x
@[simp] theorem upd_same {α : Type} (f : Nat → α) (a : Nat) (b : α) : upd f a b a = b := if_pos rfl
theorem upd_other {α : Type} (f : Nat → α) {a x : Nat} (b : α) (h : x ≠ a) : upd f a b x = f x := if_neg h

inductive Kind where | ro | rw | grow
  deriving DecidableEq
structure Loc where
  B : Nat
  o : Nat
  len : Nat
  room : Nat
  es : Nat
  k : Kind
abbrev Mu := Nat → Option Loc
abbrev Env := Nat → Value
structure ALoop where
  state : LoopState
  pending : Option Code
  tmps : Env
  params : Array Tmp
  assign : Code
  body : Code
inductive AObj where
  | row (k : Kind) (es : Nat) (cells : List Value)
  | loop (l : ALoop)
structure Heap where
  obj : Nat → Option AObj
  nx : Nat

def CapOk (m : Loc) (i c C : Nat) : Prop := C = c ∨ (m.k = .grow ∧ c ≤ C ∧ i + c * m.es = m.len ∧ i + C * m.es ≤ m.room)

mutual
inductive VR (μ : Mu) : Value → Value → Prop
  | bool (b : Bool) : VR μ (.bool b) (.bool b)
  | int (k : IntKind) (n : Int) : VR μ (.int k n) (.int k n)
  | string (s : ByteArray) : VR μ (.string s) (.string s)
  | nilPtr : VR μ (.pointer none) (.pointer none)
  | ptr {b i : Nat} {m : Loc} (h : μ b = some m) : VR μ (.pointer (some ⟨b, i, none⟩)) (.pointer (some ⟨m.B, m.o + i, none⟩))
  | nilSlice : VR μ (.slice none 0 0) (.slice none 0 0)
  | slice {b i n c C : Nat} {m : Loc} (h : μ b = some m) (hc : CapOk m i c C) : VR μ (.slice (some ⟨b, i, none⟩) n c) (.slice (some ⟨m.B, m.o + i, none⟩) n C)
  | empty0 (a' : Addr) : VR μ (.slice (some ⟨0, 0, some 0⟩) 0 0) (.slice (some a') 0 0)
  | emptyAny (a' : Addr) (C : Nat) : VR μ (.slice (some ⟨0, 0, some 1⟩) 0 0) (.slice (some a') 0 C)
  | nilMap : VR μ (.map none) (.map none)
  | map {b : Nat} {m : Loc} (h : μ b = some m) : VR μ (.map (some b)) (.map (some m.B))
  | nilFunc : VR μ .nilFunc .nilFunc
  | func (fn : Fn) (hfn : ∀ l, fn ≠ .yield l) {first first' cap cap' : Array Value} (h1 : VRL μ first.toList first'.toList) (h2 : VRL μ cap.toList cap'.toList) :
      VR μ (.func fn first cap) (.func fn first' cap')
  | yield {l : Nat} {m : Loc} (h : μ l = some m) : VR μ (.func (.yield l) #[] #[]) (.func (.yield m.B) #[] #[])
  | nilIface : VR μ .nilIface .nilIface
  | iface (t : TypeId) {v v' : Value} (h : VR μ v v') : VR μ (.iface t v) (.iface t v')
  | agg {cs cs' : Array Value} (h : VRL μ cs.toList cs'.toList) : VR μ (.agg cs) (.agg cs')
  | tuple {cs cs' : Array Value} (h : VRL μ cs.toList cs'.toList) : VR μ (.tuple cs) (.tuple cs')
inductive VRL (μ : Mu) : List Value → List Value → Prop
  | nil : VRL μ [] []
  | cons {v v' : Value} {l l' : List Value} (h : VR μ v v') (t : VRL μ l l') : VRL μ (v :: l) (v' :: l')
end

def Ext (μ μ' : Mu) : Prop := ∀ b m, μ b = some m → μ' b = some m
theorem Ext.refl (μ : Mu) : Ext μ μ := fun _ _ h => h
theorem Ext.trans {a b c : Mu} (h : Ext a b) (k : Ext b c) : Ext a c := fun x m hx => k x m (h x m hx)

theorem VR.mono {μ μ' : Mu} (hx : Ext μ μ') {v v' : Value} (h : VR μ v v') : VR μ' v v' := by
  refine VR.rec (motive_1 := fun v v' _ => VR μ' v v') (motive_2 := fun l l' _ => VRL μ' l l') ?_ ?_ ?_ ?_ ?_ ?_ ?_ ?_ ?_ ?_ ?_ ?_ ?_ ?_ ?_ ?_ ?_ ?_ ?_ ?_ h
  · exact fun b => .bool b
  · exact fun k n => .int k n
  · exact fun s => .string s
  · exact .nilPtr
  · exact fun h => .ptr (hx _ _ h)
  · exact .nilSlice
  · exact fun h hc => .slice (hx _ _ h) hc
  · exact fun a' => .empty0 a'
  · exact fun a' C => .emptyAny a' C
  · exact .nilMap
  · exact fun h => .map (hx _ _ h)
  · exact .nilFunc
  · exact fun fn hfn _ _ _ _ _ _ a b => .func fn hfn a b
  · exact fun h => .yield (hx _ _ h)
  · exact .nilIface
  · exact fun t _ _ _ a => .iface t a
  · exact fun _ a => .agg a
  · exact fun _ a => .tuple a
  · exact .nil
  · exact fun _ _ a b => .cons a b

theorem VRL.mono {μ μ' : Mu} (hx : Ext μ μ') : ∀ {l l' : List Value}, VRL μ l l' → VRL μ' l l'
  | _, _, .nil => .nil
  | _, _, .cons h t => .cons (h.mono hx) (VRL.mono hx t)

/-- Restriction: what refers to ids of an elder mapping alone is related by the elder one. -/
theorem VR.restrict {μ μg μ' : Mu} (hd : ∀ b, (μg b).isSome = true → ∀ m, μ' b = some m → μ b = some m) {v x : Value} (h : VR μg v x) : ∀ {y : Value}, VR μ' v y → VR μ v y := by
  refine VR.rec (motive_1 := fun v _ _ => ∀ {y}, VR μ' v y → VR μ v y) (motive_2 := fun l _ _ => ∀ {l'}, VRL μ' l l' → VRL μ l l') ?_ ?_ ?_ ?_ ?_ ?_ ?_ ?_ ?_ ?_ ?_ ?_ ?_ ?_ ?_ ?_ ?_ ?_ ?_ ?_ h
  · intro b y k; cases k; exact .bool _
  · intro _ _ y k; cases k; exact .int _ _
  · intro _ y k; cases k; exact .string _
  · intro y k; cases k; exact .nilPtr
  · intro b i m hb y k; cases k with | ptr h' => exact .ptr (hd _ (by simp [hb]) _ h')
  · intro y k; cases k; exact .nilSlice
  · intro b i n c C m hb hc y k
    cases k with | slice h' hc' => exact .slice (hd _ (by simp [hb]) _ h') hc'
  · intro a' y k; cases k; exact .empty0 _
  · intro a' C y k; cases k; exact .emptyAny _ _
  · intro y k; cases k; exact .nilMap
  · intro b m hb y k; cases k with | map h' => exact .map (hd _ (by simp [hb]) _ h')
  · intro y k; cases k; exact .nilFunc
  · intro fn hfn _ _ _ _ _ _ a b y k
    cases k with
    | func _ _ h1 h2 => exact .func fn hfn (a h1) (b h2)
    | yield => exact absurd rfl (hfn _)
  · intro l m hl y k
    cases k with
    | func _ hfn => exact absurd rfl (hfn _)
    | yield h' => exact .yield (hd _ (by simp [hl]) _ h')
  · intro y k; cases k; exact .nilIface
  · intro t _ _ _ a y k; cases k with | iface _ h' => exact .iface t (a h')
  · intro _ _ _ a y k; cases k with | agg h' => exact .agg (a h')
  · intro _ _ _ a y k; cases k with | tuple h' => exact .tuple (a h')
  · intro l' k; cases k; exact .nil
  · intro _ _ _ _ _ _ a b l' k; cases k with | cons h1 h2 => exact .cons (a h1) (b h2)

/-! Lists of related values -/
theorem VRL.length {μ : Mu} : ∀ {l l' : List Value}, VRL μ l l' → l.length = l'.length
  | _, _, .nil => rfl
  | _, _, .cons _ t => by simp [VRL.length t]

theorem VRL.get {μ : Mu} : ∀ {l l' : List Value}, VRL μ l l' → ∀ {i : Nat} {v : Value}, l[i]? = some v → ∃ v', l'[i]? = some v' ∧ VR μ v v'
  | _, _, .nil, i, v, h => by simp at h
  | _, _, .cons hv t, 0, v, h => by simp at h; subst h; exact ⟨_, rfl, hv⟩
  | _, _, .cons hv t, i + 1, v, h => by simp at h; simpa using VRL.get t h

theorem VRL.append {μ : Mu} : ∀ {l l' k k' : List Value}, VRL μ l l' → VRL μ k k' → VRL μ (l ++ k) (l' ++ k')
  | _, _, _, _, .nil, hk => hk
  | _, _, _, _, .cons h t, hk => .cons h (VRL.append t hk)

theorem VRL.take {μ : Mu} : ∀ {l l' : List Value} (n : Nat), VRL μ l l' → VRL μ (l.take n) (l'.take n)
  | _, _, n, .nil => by simp; exact .nil
  | _, _, 0, .cons _ _ => by simp; exact .nil
  | _, _, n + 1, .cons h t => by simp only [List.take_succ_cons]; exact .cons h (VRL.take n t)

theorem VRL.drop {μ : Mu} : ∀ {l l' : List Value} (n : Nat), VRL μ l l' → VRL μ (l.drop n) (l'.drop n)
  | _, _, n, .nil => by simp; exact .nil
  | _, _, 0, .cons h t => .cons h t
  | _, _, n + 1, .cons h t => by simp only [List.drop_succ_cons]; exact VRL.drop n t

theorem VRL.set {μ : Mu} {v v' : Value} (hv : VR μ v v') : ∀ {l l' : List Value} (n : Nat), VRL μ l l' → VRL μ (l.set n v) (l'.set n v')
  | _, _, n, .nil => by simp; exact .nil
  | _, _, 0, .cons _ t => .cons hv t
  | _, _, n + 1, .cons h t => by simp only [List.set_cons_succ]; exact .cons h (VRL.set hv n t)

theorem VRL.single {μ : Mu} {v v' : Value} (hv : VR μ v v') : VRL μ [v] [v'] := .cons hv .nil

theorem VRL.replicate {μ : Mu} {v v' : Value} (hv : VR μ v v') : ∀ n, VRL μ (List.replicate n v) (List.replicate n v')
  | 0 => .nil
  | n + 1 => .cons hv (VRL.replicate hv n)

theorem VRL.mem {μ : Mu} : ∀ {l l' : List Value}, VRL μ l l' → ∀ v' ∈ l', ∃ v ∈ l, VR μ v v'
  | _, _, .nil, v', h => by simp at h
  | _, _, .cons hv t, v', h => by
    rcases List.mem_cons.1 h with rfl | h
    · exact ⟨_, by simp, hv⟩
    · obtain ⟨u, hu, r⟩ := VRL.mem t v' h; exact ⟨u, by simp [hu], r⟩

theorem VRL.map_range {μ : Mu} (f g : Nat → Value) (n : Nat) (h : ∀ i, i < n → VR μ (f i) (g i)) : VRL μ ((List.range n).map f) ((List.range n).map g) := by
  have key : ∀ l : List Nat, (∀ i ∈ l, i < n) → VRL μ (l.map f) (l.map g) := by
    intro l; induction l with
    | nil => intro _; exact .nil
    | cons a l ih => intro hl; exact .cons (h a (hl a (by simp))) (ih fun i hi => hl i (by simp [hi]))
  exact key _ fun i hi => by simpa using hi

/-! Closed values: related to themselves alone. -/
def closedV : Nat → Value → Bool
  | 0, _ => false
  | _ + 1, .bool _ | _ + 1, .int _ _ | _ + 1, .string _ | _ + 1, .pointer none | _ + 1, .slice none 0 0 | _ + 1, .map none | _ + 1, .nilFunc | _ + 1, .nilIface => true
  | n + 1, .func (.func _) a b => a.toList.all (closedV n) && b.toList.all (closedV n)
  | n + 1, .iface _ v => closedV n v
  | n + 1, .agg cs => cs.toList.all (closedV n)
  | n + 1, .tuple cs => cs.toList.all (closedV n)
  | _ + 1, _ => false

theorem VRL.closed {μ : Mu} {n : Nat} (ih : ∀ v, closedV n v = true → VR μ v v) : ∀ l : List Value, l.all (closedV n) = true → VRL μ l l
  | [], _ => .nil
  | v :: l, h => by simp only [List.all_cons, Bool.and_eq_true] at h; exact .cons (ih v h.1) (VRL.closed ih l h.2)

theorem VR.closed {μ : Mu} : ∀ (n : Nat) (v : Value), closedV n v = true → VR μ v v
  | 0, v, h => by simp [closedV] at h
  | n + 1, v, h => by
    have ih := VR.closed (μ := μ) n
    cases v with
    | bool b => exact .bool b
    | int k n => exact .int k n
    | string s => exact .string s
    | float => simp [closedV] at h
    | complex => simp [closedV] at h
    | chan => simp [closedV] at h
    | nilFunc => exact .nilFunc
    | nilIface => exact .nilIface
    | pointer a => cases a with | none => exact .nilPtr | some a => simp [closedV] at h
    | map a => cases a with | none => exact .nilMap | some a => simp [closedV] at h
    | slice a l c =>
      cases a with
      | some a => simp [closedV] at h
      | none =>
        cases l with
        | zero => cases c with | zero => exact .nilSlice | succ c => simp [closedV] at h
        | succ l => simp [closedV] at h
    | func fn a b =>
      cases fn with
      | func f =>
        simp only [closedV, Bool.and_eq_true] at h
        exact .func _ (fun l => by simp) (VRL.closed ih _ h.1) (VRL.closed ih _ h.2)
      | _ => simp [closedV] at h
    | iface t v => exact .iface t (ih v (by simpa [closedV] using h))
    | agg cs => exact .agg (VRL.closed ih _ (by simpa only [closedV] using h))
    | tuple cs => exact .tuple (VRL.closed ih _ (by simpa only [closedV] using h))

theorem VRL.closed_inv {μ : Mu} {n : Nat} (ih : ∀ v v', closedV n v = true → VR μ v v' → v' = v) : ∀ {l l' : List Value}, l.all (closedV n) = true → VRL μ l l' → l' = l
  | _, _, _, .nil => rfl
  | _, _, h, .cons hv t => by
    simp only [List.all_cons, Bool.and_eq_true] at h
    rw [ih _ _ h.1 hv, VRL.closed_inv ih h.2 t]

theorem VR.closed_inv {μ : Mu} : ∀ (n : Nat) (v v' : Value), closedV n v = true → VR μ v v' → v' = v
  | 0, v, v', h, _ => by simp [closedV] at h
  | n + 1, v, v', h, r => by
    have ih := VR.closed_inv (μ := μ) n
    cases r with
    | bool b => rfl
    | int k n => rfl
    | string s => rfl
    | nilPtr => rfl
    | ptr => simp [closedV] at h
    | nilSlice => rfl
    | slice => simp [closedV] at h
    | empty0 => simp [closedV] at h
    | emptyAny => simp [closedV] at h
    | nilMap => rfl
    | map => simp [closedV] at h
    | nilFunc => rfl
    | nilIface => rfl
    | func fn hfn h1 h2 =>
      cases fn with
      | func f =>
        simp only [closedV, Bool.and_eq_true] at h
        have e1 := VRL.closed_inv ih h.1 h1
        have e2 := VRL.closed_inv ih h.2 h2
        rw [Array.toList_inj.1 e1, Array.toList_inj.1 e2]
      | _ => simp [closedV] at h
    | yield => simp [closedV] at h
    | iface t r => rw [ih _ _ (by simpa [closedV] using h) r]
    | agg hl => rw [Array.toList_inj.1 (VRL.closed_inv ih (by simpa only [closedV] using h) hl)]
    | tuple hl => rw [Array.toList_inj.1 (VRL.closed_inv ih (by simpa only [closedV] using h) hl)]

theorem VR.oneCell {μ : Mu} {v v' : Value} (h : VR μ v v') : v'.oneCell' = v.oneCell' := by cases h <;> rfl

theorem VR.cells {μ : Mu} {v v' : Value} (h : VR μ v v') : VRL μ v.cells.toList v'.cells.toList := by
  cases h with
  | agg h => exact h
  | bool b => exact .single (.bool b)
  | int k n => exact .single (.int k n)
  | string s => exact .single (.string s)
  | nilPtr => exact .single .nilPtr
  | ptr h => exact .single (.ptr h)
  | nilSlice => exact .single .nilSlice
  | slice h hc => exact .single (.slice h hc)
  | empty0 a => exact .single (.empty0 a)
  | emptyAny a C => exact .single (.emptyAny a C)
  | nilMap => exact .single .nilMap
  | map h => exact .single (.map h)
  | nilFunc => exact .single .nilFunc
  | nilIface => exact .single .nilIface
  | func fn hfn h1 h2 => exact .single (.func fn hfn h1 h2)
  | yield h => exact .single (.yield h)
  | iface t h => exact .single (.iface t h)
  | tuple h => exact .single (.tuple h)

/-! The heap's relation. -/
def EnvR (μ : Mu) (e : Env) (tmps : Array Value) : Prop := ∀ t, VR μ (e t) (tmps.getD t undef)
theorem EnvR.mono {μ μ' : Mu} (hx : Ext μ μ') {e : Env} {tmps : Array Value} (h : EnvR μ e tmps) : EnvR μ' e tmps := fun t => (h t).mono hx
theorem EnvR.put {μ : Mu} {e : Env} {tmps : Array Value} (h : EnvR μ e tmps) {d : Nat} (hd : d < tmps.size) {v v' : Value} (hv : VR μ v v') : EnvR μ (upd e d v) (tmps.setIfInBounds d v') := by
  intro t
  by_cases ht : t = d
  · subst ht; simp [hd, hv]
  · have := h t
    simpa [upd_other _ _ ht, Array.getElem?_setIfInBounds_ne (Ne.symm ht)] using this

def goodOpd : Operand → Bool
  | .tmp _ | .func _ => true
  | .const v => closedV 8 v
  | .global _ => false
def goodOper (n : Nat) (o : Oper) : Bool := o.op.operands.toList.all goodOpd && (match o.dst with | some d => decide (d < n) | none => true)
def goodCode (n : Nat) : Code → Bool
  | .region _ ops _ => ops.toList.all (goodOper n)
  | .seq a b => goodCode n a && goodCode n b
  | .cond c a b => goodOpd c && goodCode n a && goodCode n b
  | .block _ b | .loop b | .scope b => goodCode n b
  | .rangeFunc f ps a b => goodOpd f && ps.toList.all (fun t => decide (t < n)) && goodCode n a && goodCode n b
  | _ => true

def RowRel (μ : Mu) (m : Loc) (k : Kind) (es : Nat) (cs : List Value) (w : World) : Prop :=
  m.k = k ∧ m.es = es ∧ m.len = cs.length ∧ m.len ≤ m.room ∧ ∃ arr el fr, w.heap[m.B]? = some (.cells arr el fr) ∧ m.o + m.room ≤ arr.size ∧
    VRL μ cs ((arr.toList.drop m.o).take m.len) ∧ (k ≠ .ro → ∀ j, j < arr.size → ¬ (fr.1 ≤ j ∧ j < fr.2))
def LoopRel (μ : Mu) (m : Loc) (L : ALoop) (w : World) : Prop :=
  m.k = .rw ∧ ∃ r : Loop, w.heap[m.B]? = some (.loop r) ∧ r.state = L.state ∧ r.pending = L.pending ∧ EnvR μ L.tmps r.tmps ∧
    r.params = L.params ∧ r.assign = L.assign ∧ r.body = L.body ∧ goodCode r.tmps.size L.assign = true ∧ goodCode r.tmps.size L.body = true ∧ L.params.toList.all (fun t => decide (t < r.tmps.size)) = true
def ObjRel (μ : Mu) (m : Loc) (w : World) : AObj → Prop
  | .row k es cs => RowRel μ m k es cs w
  | .loop L => LoopRel μ m L w
structure Rel (μ : Mu) (h : Heap) (w : World) : Prop where
  obj : ∀ b m o, μ b = some m → h.obj b = some o → ObjRel μ m w o
  inj : ∀ b b' m m', μ b = some m → μ b' = some m' → (h.obj b).isSome = true → (h.obj b').isSome = true → b ≠ b' → m.k ≠ .ro → m.B ≠ m'.B
def Fresh (μ : Mu) (h : Heap) : Prop := ∀ b, h.nx ≤ b → μ b = none
structure Pres (μ : Mu) (h : Heap) (w w' : World) : Prop where
  os : w'.os = w.os
  tape : w'.tape = w.tape
  output : w'.output = w.output
  size : w.heap.size ≤ w'.heap.size
  block : ∀ B, B < w.heap.size → (∀ b m, μ b = some m → (h.obj b).isSome = true → m.k ≠ .ro → m.B ≠ B) → w'.heap[B]? = w.heap[B]?
structure Step (μ μ' : Mu) (h h' : Heap) (w w' : World) : Prop where
  ext : Ext μ μ'
  new : ∀ b m, μ' b = some m → μ b = some m ∨ (h.nx ≤ b ∧ (w.heap.size ≤ m.B ∨ ∃ b0 m0, μ b0 = some m0 ∧ (h.obj b0).isSome = true ∧ m0.k ≠ .ro ∧ m0.B = m.B))
  live : ∀ b, b < h.nx → (h'.obj b).isSome = true → (h.obj b).isSome = true
  rel : Rel μ' h' w'
  fresh : Fresh μ' h'
  nx : h.nx ≤ h'.nx
  full : ∀ b, h.nx ≤ b → b < h'.nx → (h'.obj b).isSome = true → (μ' b).isSome = true
  pres : Pres μ h w w'

theorem Pres.refl (μ : Mu) (h : Heap) (w : World) : Pres μ h w w := ⟨rfl, rfl, rfl, Nat.le_refl _, fun _ _ _ => rfl⟩
theorem Step.refl {μ : Mu} {h : Heap} {w : World} (hr : Rel μ h w) (hf : Fresh μ h) : Step μ μ h h w w :=
  ⟨.refl _, fun _ _ hm => .inl hm, fun _ _ hs => hs, hr, hf, Nat.le_refl _, (fun _ h1 h2 _ => absurd h1 (Nat.not_le.2 h2)), .refl _ _ _⟩

theorem Fresh.lt {μ : Mu} {h : Heap} (hf : Fresh μ h) {b : Nat} {m : Loc} (hb : μ b = some m) : b < h.nx :=
  Nat.lt_of_not_le fun hle => by rw [hf b hle] at hb; cases hb

theorem Step.trans {μ₁ μ₂ μ₃ : Mu} {h₁ h₂ h₃ : Heap} {w₁ w₂ w₃ : World} (hf : Fresh μ₁ h₁) (s : Step μ₁ μ₂ h₁ h₂ w₁ w₂) (t : Step μ₂ μ₃ h₂ h₃ w₂ w₃) : Step μ₁ μ₃ h₁ h₃ w₁ w₃ := by
  have hsz := s.pres.size
  have old : ∀ b0 m0, μ₂ b0 = some m0 → (h₂.obj b0).isSome = true → m0.k ≠ .ro → w₁.heap.size ≤ m0.B ∨ ∃ b1 m1, μ₁ b1 = some m1 ∧ (h₁.obj b1).isSome = true ∧ m1.k ≠ .ro ∧ m1.B = m0.B := by
    intro b0 m0 hm hl hk
    rcases s.new b0 m0 hm with h0 | ⟨_, h0⟩
    · exact .inr ⟨b0, m0, h0, s.live _ (hf.lt h0) hl, hk, rfl⟩
    · exact h0
  refine ⟨s.ext.trans t.ext, ?_, ?_, t.rel, t.fresh, Nat.le_trans s.nx t.nx, ?_, ?_⟩
  · intro b m hm
    rcases t.new b m hm with h2 | ⟨hb, hB | ⟨b0, m0, hm0, hl, hk, hB⟩⟩
    · exact s.new b m h2
    · exact .inr ⟨Nat.le_trans s.nx hb, .inl (Nat.le_trans hsz hB)⟩
    · refine .inr ⟨Nat.le_trans s.nx hb, ?_⟩
      rcases old b0 m0 hm0 hl hk with h | ⟨b1, m1, a1, a2, a3, a4⟩
      · exact .inl (hB ▸ h)
      · exact .inr ⟨b1, m1, a1, a2, a3, a4.trans hB⟩
  · exact fun b hb hs => s.live b hb (t.live b (Nat.lt_of_lt_of_le hb s.nx) hs)
  · intro b h1 h3 hl
    by_cases h2 : b < h₂.nx
    · obtain ⟨m, hm⟩ := Option.isSome_iff_exists.1 (s.full b h1 h2 (t.live b h2 hl))
      rw [t.ext b m hm]; rfl
    · exact t.full b (Nat.le_of_not_lt h2) h3 hl
  · refine ⟨t.pres.os.trans s.pres.os, t.pres.tape.trans s.pres.tape, t.pres.output.trans s.pres.output, Nat.le_trans hsz t.pres.size, fun B hB hno => ?_⟩
    rw [t.pres.block B (Nat.lt_of_lt_of_le hB hsz), s.pres.block B hB hno]
    intro b m hm hl hk hmB
    rcases old b m hm hl hk with h | ⟨b1, m1, a1, a2, a3, a4⟩
    · omega
    · exact hno b1 m1 a1 a2 a3 (a4.trans hmB)

end Go.Proofs.Ytfehhihllenjiaa
