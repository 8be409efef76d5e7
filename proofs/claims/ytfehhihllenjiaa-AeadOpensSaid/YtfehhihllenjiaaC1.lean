/- Abstract values and heaps: the relation between an abstract run and the run of the model. -/
import Derived.Calls
import Derived.Laws.Sem
import Derived.Laws.World
import Derived.Laws.Cells
import Derived.Laws.Entries
set_option linter.all false
namespace Go.Proofs.Ytfehhihllenjiaa

def upd {α : Type} (f : Nat → α) (a : Nat) (b : α) : Nat → α := fun x => if x = a then b else f x
@[simp] theorem upd_same {α : Type} (f : Nat → α) (a : Nat) (b : α) : upd f a b a = b := if_pos rfl
theorem upd_other {α : Type} (f : Nat → α) {a x : Nat} (b : α) (h : x ≠ a) : upd f a b x = f x := if_neg h

inductive Kind where | ro | rw | grow
  deriving DecidableEq
structure Loc where
  B : Nat
  o : Nat
  len : Nat
  room : Nat
  es : Nat
  k : Kind
abbrev Mu := Nat → Option Loc
abbrev Env := Nat → Value
structure ALoop where
  state : LoopState
  pending : Option Code
  tmps : Env
  params : Array Tmp
  assign : Code
  body : Code
inductive AObj where
  | row (k : Kind) (es : Nat) (cells : List Value)
  | loop (l : ALoop)
structure Heap where
  obj : Nat → Option AObj
  nx : Nat

def CapOk (m : Loc) (i c C : Nat) : Prop := C = c ∨ (m.k = .grow ∧ c ≤ C ∧ i + c * m.es = m.len ∧ i + C * m.es ≤ m.room)

mutual
inductive VR (μ : Mu) : Value → Value → Prop
  | bool (b : Bool) : VR μ (.bool b) (.bool b)
  | int (k : IntKind) (n : Int) : VR μ (.int k n) (.int k n)
  | string (s : ByteArray) : VR μ (.string s) (.string s)
  | nilPtr : VR μ (.pointer none) (.pointer none)
  | ptr {b i : Nat} {m : Loc} (h : μ b = some m) : VR μ (.pointer (some ⟨b, i, none⟩)) (.pointer (some ⟨m.B, m.o + i, none⟩))
  | nilSlice : VR μ (.slice none 0 0) (.slice none 0 0)
  | slice {b i n c C : Nat} {m : Loc} (h : μ b = some m) (hc : CapOk m i c C) : VR μ (.slice (some ⟨b, i, none⟩) n c) (.slice (some ⟨m.B, m.o + i, none⟩) n C)
  | empty0 (a' : Addr) : VR μ (.slice (some ⟨0, 0, some 0⟩) 0 0) (.slice (some a') 0 0)
  | emptyAny (a' : Addr) (C : Nat) : VR μ (.slice (some ⟨0, 0, some 1⟩) 0 0) (.slice (some a') 0 C)
  | nilMap : VR μ (.map none) (.map none)
  | map {b : Nat} {m : Loc} (h : μ b = some m) : VR μ (.map (some b)) (.map (some m.B))
  | nilFunc : VR μ .nilFunc .nilFunc
  | func (fn : Fn) (hfn : ∀ l, fn ≠ .yield l) {first first' cap cap' : Array Value} (h1 : VRL μ first.toList first'.toList) (h2 : VRL μ cap.toList cap'.toList) :
      VR μ (.func fn first cap) (.func fn first' cap')
  | yield {l : Nat} {m : Loc} (h : μ l = some m) : VR μ (.func (.yield l) #[] #[]) (.func (.yield m.B) #[] #[])
  | nilIface : VR μ .nilIface .nilIface
  | iface (t : TypeId) {v v' : Value} (h : VR μ v v') : VR μ (.iface t v) (.iface t v')
  | agg {cs cs' : Array Value} (h : VRL μ cs.toList cs'.toList) : VR μ (.agg cs) (.agg cs')
  | tuple {cs cs' : Array Value} (h : VRL μ cs.toList cs'.toList) : VR μ (.tuple cs) (.tuple cs')
inductive VRL (μ : Mu) : List Value → List Value → Prop
  | nil : VRL μ [] []
  | cons {v v' : Value} {l l' : List Value} (h : VR μ v v') (t : VRL μ l l') : VRL μ (v :: l) (v' :: l')
end

def Ext (μ μ' : Mu) : Prop := ∀ b m, μ b = some m → μ' b = some m
theorem Ext.refl (μ : Mu) : Ext μ μ := fun _ _ h => h
theorem Ext.trans {a b c : Mu} (h : Ext a b) (k : Ext b c) : Ext a c := fun x m hx => k x m (h x m hx)

theorem VR.mono {μ μ' : Mu} (hx : Ext μ μ') {v v' : Value} (h : VR μ v v') : VR μ' v v' := by
  refine VR.rec (motive_1 := fun v v' _ => VR μ' v v') (motive_2 := fun l l' _ => VRL μ' l l') ?_ ?_ ?_ ?_ ?_ ?_ ?_ ?_ ?_ ?_ ?_ ?_ ?_ ?_ ?_ ?_ ?_ ?_ ?_ ?_ h
  · exact fun b => .bool b
  · exact fun k n => .int k n
  · exact fun s => .string s
  · exact .nilPtr
  · exact fun h => .ptr (hx _ _ h)
  · exact .nilSlice
  · exact fun h hc => .slice (hx _ _ h) hc
  · exact fun a' => .empty0 a'
  · exact fun a' C => .emptyAny a' C
  · exact .nilMap
  · exact fun h => .map (hx _ _ h)
  · exact .nilFunc
  · exact fun fn hfn _ _ _ _ _ _ a b => .func fn hfn a b
  · exact fun h => .yield (hx _ _ h)
  · exact .nilIface
  · exact fun t _ _ _ a => .iface t a
  · exact fun _ a => .agg a
  · exact fun _ a => .tuple a
  · exact .nil
  · exact fun _ _ a b => .cons a b

theorem VRL.mono {μ μ' : Mu} (hx : Ext μ μ') : ∀ {l l' : List Value}, VRL μ l l' → VRL μ' l l'
  | _, _, .nil => .nil
  | _, _, .cons h t => .cons (h.mono hx) (VRL.mono hx t)

/-- Restriction: what refers to ids of an elder mapping alone is related by the elder one. -/
theorem VR.restrict {μ μg μ' : Mu} (hd : ∀ b, (μg b).isSome = true → ∀ m, μ' b = some m → μ b = some m) {v x : Value} (h : VR μg v x) : ∀ {y : Value}, VR μ' v y → VR μ v y := by
  refine VR.rec (motive_1 := fun v _ _ => ∀ {y}, VR μ' v y → VR μ v y) (motive_2 := fun l _ _ => ∀ {l'}, VRL μ' l l' → VRL μ l l') ?_ ?_ ?_ ?_ ?_ ?_ ?_ ?_ ?_ ?_ ?_ ?_ ?_ ?_ ?_ ?_ ?_ ?_ ?_ ?_ h
  · intro b y k; cases k; exact .bool _
  · intro _ _ y k; cases k; exact .int _ _
  · intro _ y k; cases k; exact .string _
  · intro y k; cases k; exact .nilPtr
  · intro b i m hb y k; cases k with | ptr h' => exact .ptr (hd _ (by simp [hb]) _ h')
  · intro y k; cases k; exact .nilSlice
  · intro b i n c C m hb hc y k
    cases k with | slice h' hc' => exact .slice (hd _ (by simp [hb]) _ h') hc'
  · intro a' y k; cases k; exact .empty0 _
  · intro a' C y k; cases k; exact .emptyAny _ _
  · intro y k; cases k; exact .nilMap
  · intro b m hb y k; cases k with | map h' => exact .map (hd _ (by simp [hb]) _ h')
  · intro y k; cases k; exact .nilFunc
  · intro fn hfn _ _ _ _ _ _ a b y k
    cases k with
    | func _ _ h1 h2 => exact .func fn hfn (a h1) (b h2)
    | yield => exact absurd rfl (hfn _)
  · intro l m hl y k
    cases k with
    | func _ hfn => exact absurd rfl (hfn _)
    | yield h' => exact .yield (hd _ (by simp [hl]) _ h')
  · intro y k; cases k; exact .nilIface
  · intro t _ _ _ a y k; cases k with | iface _ h' => exact .iface t (a h')
  · intro _ _ _ a y k; cases k with | agg h' => exact .agg (a h')
  · intro _ _ _ a y k; cases k with | tuple h' => exact .tuple (a h')
  · intro l' k; cases k; exact .nil
  · intro _ _ _ _ _ _ a b l' k; cases k with | cons h1 h2 => exact .cons (a h1) (b h2)

/-! Lists of related values -/
theorem VRL.length {μ : Mu} : ∀ {l l' : List Value}, VRL μ l l' → l.length = l'.length
  | _, _, .nil => rfl
  | _, _, .cons _ t => by simp [VRL.length t]

theorem VRL.get {μ : Mu} : ∀ {l l' : List Value}, VRL μ l l' → ∀ {i : Nat} {v : Value}, l[i]? = some v → ∃ v', l'[i]? = some v' ∧ VR μ v v'
  | _, _, .nil, i, v, h => by simp at h
  | _, _, .cons hv t, 0, v, h => by simp at h; subst h; exact ⟨_, rfl, hv⟩
  | _, _, .cons hv t, i + 1, v, h => by simp at h; simpa using VRL.get t h

theorem VRL.append {μ : Mu} : ∀ {l l' k k' : List Value}, VRL μ l l' → VRL μ k k' → VRL μ (l ++ k) (l' ++ k')
  | _, _, _, _, .nil, hk => hk
  | _, _, _, _, .cons h t, hk => .cons h (VRL.append t hk)

theorem VRL.take {μ : Mu} : ∀ {l l' : List Value} (n : Nat), VRL μ l l' → VRL μ (l.take n) (l'.take n)
  | _, _, n, .nil => by simp; exact .nil
  | _, _, 0, .cons _ _ => by simp; exact .nil
  | _, _, n + 1, .cons h t => by simp only [List.take_succ_cons]; exact .cons h (VRL.take n t)

theorem VRL.drop {μ : Mu} : ∀ {l l' : List Value} (n : Nat), VRL μ l l' → VRL μ (l.drop n) (l'.drop n)
  | _, _, n, .nil => by simp; exact .nil
  | _, _, 0, .cons h t => .cons h t
  | _, _, n + 1, .cons h t => by simp only [List.drop_succ_cons]; exact VRL.drop n t

theorem VRL.set {μ : Mu} {v v' : Value} (hv : VR μ v v') : ∀ {l l' : List Value} (n : Nat), VRL μ l l' → VRL μ (l.set n v) (l'.set n v')
  | _, _, n, .nil => by simp; exact .nil
  | _, _, 0, .cons _ t => .cons hv t
  | _, _, n + 1, .cons h t => by simp only [List.set_cons_succ]; exact .cons h (VRL.set hv n t)

theorem VRL.single {μ : Mu} {v v' : Value} (hv : VR μ v v') : VRL μ [v] [v'] := .cons hv .nil

theorem VRL.replicate {μ : Mu} {v v' : Value} (hv : VR μ v v') : ∀ n, VRL μ (List.replicate n v) (List.replicate n v')
  | 0 => .nil
  | n + 1 => .cons hv (VRL.replicate hv n)

theorem VRL.map_range {μ : Mu} (f g : Nat → Value) (n : Nat) (h : ∀ i, i < n → VR μ (f i) (g i)) : VRL μ ((List.range n).map f) ((List.range n).map g) := by
  have key : ∀ l : List Nat, (∀ i ∈ l, i < n) → VRL μ (l.map f) (l.map g) := by
    intro l; induction l with
    | nil => intro _; exact .nil
    | cons a l ih => intro hl; exact .cons (h a (hl a (by simp))) (ih fun i hi => hl i (by simp [hi]))
  exact key _ fun i hi => by simpa using hi

/-! Closed values: related to themselves alone. -/
def closedV : Nat → Value → Bool
  | 0, _ => false
  | _ + 1, .bool _ | _ + 1, .int _ _ | _ + 1, .string _ | _ + 1, .pointer none | _ + 1, .slice none 0 0 | _ + 1, .map none | _ + 1, .nilFunc | _ + 1, .nilIface => true
  | n + 1, .func (.func _) a b => a.toList.all (closedV n) && b.toList.all (closedV n)
  | n + 1, .iface _ v => closedV n v
  | n + 1, .agg cs => cs.toList.all (closedV n)
  | n + 1, .tuple cs => cs.toList.all (closedV n)
  | _ + 1, _ => false

theorem VRL.closed {μ : Mu} {n : Nat} (ih : ∀ v, closedV n v = true → VR μ v v) : ∀ l : List Value, l.all (closedV n) = true → VRL μ l l
  | [], _ => .nil
  | v :: l, h => by simp only [List.all_cons, Bool.and_eq_true] at h; exact .cons (ih v h.1) (VRL.closed ih l h.2)

theorem VR.closed {μ : Mu} : ∀ (n : Nat) (v : Value), closedV n v = true → VR μ v v
  | 0, v, h => by simp [closedV] at h
  | n + 1, v, h => by
    have ih := VR.closed (μ := μ) n
    cases v with
    | bool b => exact .bool b
    | int k n => exact .int k n
    | string s => exact .string s
    | float => simp [closedV] at h
    | complex => simp [closedV] at h
    | chan => simp [closedV] at h
    | nilFunc => exact .nilFunc
    | nilIface => exact .nilIface
    | pointer a => cases a with | none => exact .nilPtr | some a => simp [closedV] at h
    | map a => cases a with | none => exact .nilMap | some a => simp [closedV] at h
    | slice a l c =>
      cases a with
      | some a => simp [closedV] at h
      | none =>
        cases l with
        | zero => cases c with | zero => exact .nilSlice | succ c => simp [closedV] at h
        | succ l => simp [closedV] at h
    | func fn a b =>
      cases fn with
      | func f =>
        simp only [closedV, Bool.and_eq_true] at h
        exact .func _ (fun l => by simp) (VRL.closed ih _ h.1) (VRL.closed ih _ h.2)
      | _ => simp [closedV] at h
    | iface t v => exact .iface t (ih v (by simpa [closedV] using h))
    | agg cs => exact .agg (VRL.closed ih _ (by simpa only [closedV] using h))
    | tuple cs => exact .tuple (VRL.closed ih _ (by simpa only [closedV] using h))

theorem VRL.closed_inv {μ : Mu} {n : Nat} (ih : ∀ v v', closedV n v = true → VR μ v v' → v' = v) : ∀ {l l' : List Value}, l.all (closedV n) = true → VRL μ l l' → l' = l
  | _, _, _, .nil => rfl
  | _, _, h, .cons hv t => by
    simp only [List.all_cons, Bool.and_eq_true] at h
    rw [ih _ _ h.1 hv, VRL.closed_inv ih h.2 t]

theorem VR.closed_inv {μ : Mu} : ∀ (n : Nat) (v v' : Value), closedV n v = true → VR μ v v' → v' = v
  | 0, v, v', h, _ => by simp [closedV] at h
  | n + 1, v, v', h, r => by
    have ih := VR.closed_inv (μ := μ) n
    cases r with
    | bool b => rfl
    | int k n => rfl
    | string s => rfl
    | nilPtr => rfl
    | ptr => simp [closedV] at h
    | nilSlice => rfl
    | slice => simp [closedV] at h
    | empty0 => simp [closedV] at h
    | emptyAny => simp [closedV] at h
    | nilMap => rfl
    | map => simp [closedV] at h
    | nilFunc => rfl
    | nilIface => rfl
    | func fn hfn h1 h2 =>
      cases fn with
      | func f =>
        simp only [closedV, Bool.and_eq_true] at h
        have e1 := VRL.closed_inv ih h.1 h1
        have e2 := VRL.closed_inv ih h.2 h2
        rw [Array.toList_inj.1 e1, Array.toList_inj.1 e2]
      | _ => simp [closedV] at h
    | yield => simp [closedV] at h
    | iface t r => rw [ih _ _ (by simpa [closedV] using h) r]
    | agg hl => rw [Array.toList_inj.1 (VRL.closed_inv ih (by simpa only [closedV] using h) hl)]
    | tuple hl => rw [Array.toList_inj.1 (VRL.closed_inv ih (by simpa only [closedV] using h) hl)]

theorem VR.oneCell {μ : Mu} {v v' : Value} (h : VR μ v v') : v'.oneCell' = v.oneCell' := by cases h <;> rfl

theorem VR.cells {μ : Mu} {v v' : Value} (h : VR μ v v') : VRL μ v.cells.toList v'.cells.toList := by
  cases h with
  | agg h => exact h
  | bool b => exact .single (.bool b)
  | int k n => exact .single (.int k n)
  | string s => exact .single (.string s)
  | nilPtr => exact .single .nilPtr
  | ptr h => exact .single (.ptr h)
  | nilSlice => exact .single .nilSlice
  | slice h hc => exact .single (.slice h hc)
  | empty0 a => exact .single (.empty0 a)
  | emptyAny a C => exact .single (.emptyAny a C)
  | nilMap => exact .single .nilMap
  | map h => exact .single (.map h)
  | nilFunc => exact .single .nilFunc
  | nilIface => exact .single .nilIface
  | func fn hfn h1 h2 => exact .single (.func fn hfn h1 h2)
  | yield h => exact .single (.yield h)
  | iface t h => exact .single (.iface t h)
  | tuple h => exact .single (.tuple h)

/-! The heap's relation. -/
def EnvR (μ : Mu) (e : Env) (tmps : Array Value) : Prop := ∀ t, VR μ (e t) (tmps.getD t undef)
theorem EnvR.mono {μ μ' : Mu} (hx : Ext μ μ') {e : Env} {tmps : Array Value} (h : EnvR μ e tmps) : EnvR μ' e tmps := fun t => (h t).mono hx
theorem EnvR.put {μ : Mu} {e : Env} {tmps : Array Value} (h : EnvR μ e tmps) {d : Nat} (hd : d < tmps.size) {v v' : Value} (hv : VR μ v v') : EnvR μ (upd e d v) (tmps.setIfInBounds d v') := by
  intro t
  by_cases ht : t = d
  · subst ht; simp [hd, hv]
  · have := h t
    simpa [upd_other _ _ ht, Array.getElem?_setIfInBounds_ne (Ne.symm ht)] using this

def goodOpd : Operand → Bool
  | .tmp _ | .func _ => true
  | .const v => closedV 8 v
  | .global _ => false
def goodOper (n : Nat) (o : Oper) : Bool := o.op.operands.toList.all goodOpd && (match o.dst with | some d => decide (d < n) | none => true)
def goodCode (n : Nat) : Code → Bool
  | .region _ ops _ => ops.toList.all (goodOper n)
  | .seq a b => goodCode n a && goodCode n b
  | .cond c a b => goodOpd c && goodCode n a && goodCode n b
  | .block _ b | .loop b | .scope b => goodCode n b
  | .rangeFunc f ps a b => goodOpd f && ps.toList.all (fun t => decide (t < n)) && goodCode n a && goodCode n b
  | _ => true

def RowRel (μ : Mu) (m : Loc) (k : Kind) (es : Nat) (cs : List Value) (w : World) : Prop :=
  m.k = k ∧ m.es = es ∧ m.len = cs.length ∧ m.len ≤ m.room ∧ ∃ arr el fr, w.heap[m.B]? = some (.cells arr el fr) ∧ m.o + m.room ≤ arr.size ∧
    VRL μ cs ((arr.toList.drop m.o).take m.len) ∧ (k ≠ .ro → fr.1 ≤ fr.2 ∧ ∀ j, j < arr.size → ¬ (fr.1 ≤ j ∧ j < fr.2))
def LoopRel (μ : Mu) (m : Loc) (L : ALoop) (w : World) : Prop :=
  m.k = .rw ∧ ∃ r : Loop, w.heap[m.B]? = some (.loop r) ∧ r.state = L.state ∧ r.pending = L.pending ∧ EnvR μ L.tmps r.tmps ∧
    r.params = L.params ∧ r.assign = L.assign ∧ r.body = L.body ∧ goodCode r.tmps.size L.assign = true ∧ goodCode r.tmps.size L.body = true ∧ L.params.toList.all (fun t => decide (t < r.tmps.size)) = true
def ObjRel (μ : Mu) (m : Loc) (w : World) : AObj → Prop
  | .row k es cs => RowRel μ m k es cs w
  | .loop L => LoopRel μ m L w
structure Rel (μ : Mu) (h : Heap) (w : World) : Prop where
  obj : ∀ b m o, μ b = some m → h.obj b = some o → ObjRel μ m w o
  inj : ∀ b b' m m', μ b = some m → μ b' = some m' → (h.obj b).isSome = true → (h.obj b').isSome = true → b ≠ b' → m.k ≠ .ro → m.B ≠ m'.B
def Fresh (μ : Mu) (h : Heap) : Prop := ∀ b, h.nx ≤ b → μ b = none
structure Pres (μ : Mu) (h : Heap) (w w' : World) : Prop where
  os : w'.os = w.os
  tape : w'.tape = w.tape
  output : w'.output = w.output
  size : w.heap.size ≤ w'.heap.size
  block : ∀ B, B < w.heap.size → (∀ b m, μ b = some m → (h.obj b).isSome = true → m.k ≠ .ro → m.B ≠ B) → w'.heap[B]? = w.heap[B]?
structure Step (μ μ' : Mu) (h h' : Heap) (w w' : World) : Prop where
  ext : Ext μ μ'
  new : ∀ b m, μ' b = some m → μ b = some m ∨ (h.nx ≤ b ∧ (w.heap.size ≤ m.B ∨ ∃ b0 m0, μ b0 = some m0 ∧ (h.obj b0).isSome = true ∧ m0.k ≠ .ro ∧ m0.B = m.B))
  live : ∀ b, b < h.nx → (h'.obj b).isSome = true → (h.obj b).isSome = true
  rel : Rel μ' h' w'
  fresh : Fresh μ' h'
  nx : h.nx ≤ h'.nx
  full : ∀ b, h.nx ≤ b → b < h'.nx → (h'.obj b).isSome = true → (μ' b).isSome = true
  pres : Pres μ h w w'

theorem Pres.refl (μ : Mu) (h : Heap) (w : World) : Pres μ h w w := ⟨rfl, rfl, rfl, Nat.le_refl _, fun _ _ _ => rfl⟩
theorem Step.refl {μ : Mu} {h : Heap} {w : World} (hr : Rel μ h w) (hf : Fresh μ h) : Step μ μ h h w w :=
  ⟨.refl _, fun _ _ hm => .inl hm, fun _ _ hs => hs, hr, hf, Nat.le_refl _, (fun _ h1 h2 _ => absurd h1 (Nat.not_le.2 h2)), .refl _ _ _⟩

theorem Fresh.lt {μ : Mu} {h : Heap} (hf : Fresh μ h) {b : Nat} {m : Loc} (hb : μ b = some m) : b < h.nx :=
  Nat.lt_of_not_le fun hle => by rw [hf b hle] at hb; cases hb

theorem Step.trans {μ₁ μ₂ μ₃ : Mu} {h₁ h₂ h₃ : Heap} {w₁ w₂ w₃ : World} (hf : Fresh μ₁ h₁) (s : Step μ₁ μ₂ h₁ h₂ w₁ w₂) (t : Step μ₂ μ₃ h₂ h₃ w₂ w₃) : Step μ₁ μ₃ h₁ h₃ w₁ w₃ := by
  have hsz := s.pres.size
  have old : ∀ b0 m0, μ₂ b0 = some m0 → (h₂.obj b0).isSome = true → m0.k ≠ .ro → w₁.heap.size ≤ m0.B ∨ ∃ b1 m1, μ₁ b1 = some m1 ∧ (h₁.obj b1).isSome = true ∧ m1.k ≠ .ro ∧ m1.B = m0.B := by
    intro b0 m0 hm hl hk
    rcases s.new b0 m0 hm with h0 | ⟨_, h0⟩
    · exact .inr ⟨b0, m0, h0, s.live _ (hf.lt h0) hl, hk, rfl⟩
    · exact h0
  refine ⟨s.ext.trans t.ext, ?_, ?_, t.rel, t.fresh, Nat.le_trans s.nx t.nx, ?_, ?_⟩
  · intro b m hm
    rcases t.new b m hm with h2 | ⟨hb, hB | ⟨b0, m0, hm0, hl, hk, hB⟩⟩
    · exact s.new b m h2
    · exact .inr ⟨Nat.le_trans s.nx hb, .inl (Nat.le_trans hsz hB)⟩
    · refine .inr ⟨Nat.le_trans s.nx hb, ?_⟩
      rcases old b0 m0 hm0 hl hk with h | ⟨b1, m1, a1, a2, a3, a4⟩
      · exact .inl (hB ▸ h)
      · exact .inr ⟨b1, m1, a1, a2, a3, a4.trans hB⟩
  · exact fun b hb hs => s.live b hb (t.live b (Nat.lt_of_lt_of_le hb s.nx) hs)
  · intro b h1 h3 hl
    by_cases h2 : b < h₂.nx
    · obtain ⟨m, hm⟩ := Option.isSome_iff_exists.1 (s.full b h1 h2 (t.live b h2 hl))
      rw [t.ext b m hm]; rfl
    · exact t.full b (Nat.le_of_not_lt h2) h3 hl
  · refine ⟨t.pres.os.trans s.pres.os, t.pres.tape.trans s.pres.tape, t.pres.output.trans s.pres.output, Nat.le_trans hsz t.pres.size, fun B hB hno => ?_⟩
    rw [t.pres.block B (Nat.lt_of_lt_of_le hB hsz), s.pres.block B hB hno]
    intro b m hm hl hk hmB
    rcases old b m hm hl hk with h | ⟨b1, m1, a1, a2, a3, a4⟩
    · omega
    · exact hno b1 m1 a1 a2 a3 (a4.trans hmB)

end Go.Proofs.Ytfehhihllenjiaa
/- Reading, writing and making memory: what each does to the relation. -/
set_option linter.all false
namespace Go.Proofs.Ytfehhihllenjiaa

def setAt : List Value → Nat → List Value → List Value
  | cs, _, [] => cs
  | cs, i, v :: vs => setAt (cs.set i v) (i + 1) vs
@[simp] theorem setAt_nil (cs : List Value) (i : Nat) : setAt cs i [] = cs := rfl
@[simp] theorem setAt_one (cs : List Value) (i : Nat) (v : Value) : setAt cs i [v] = cs.set i v := rfl
@[simp] theorem setAt_length : ∀ (vs cs : List Value) (i : Nat), (setAt cs i vs).length = cs.length
  | [], _, _ => rfl
  | v :: vs, cs, i => by simp [setAt, setAt_length vs]

def Heap.push (h : Heap) (o : AObj) : Heap := ⟨upd h.obj h.nx (some o), h.nx + 1⟩
def Heap.put (h : Heap) (b : Nat) (o : Option AObj) : Heap := ⟨upd h.obj b o, h.nx⟩
def _root_.Go.World.setBlk (w : World) (B : Nat) (o : Obj) : World := { w with heap := w.heap.setIfInBounds B o }

theorem run_loadCells_row {P : Program} {w : World} {B o n : Nat} {arr : Array Value} {el : TypeId} {fr : Nat × Nat} (hb : w.heap[B]? = some (.cells arr el fr)) (hn : o + n ≤ arr.size) :
    (loadCells ⟨B, o, none⟩ n).run P w = .ok ((arr.toList.drop o).take n).toArray w := by
  have hlen : ((arr.toList.drop o).take n).length = n := by simp; omega
  have h := run_loadCells_list (P := P) w ⟨B, o, none⟩ ((arr.toList.drop o).take n) (fun j v hj => by
    have hadd : (⟨B, o, none⟩ : Addr).add j = ⟨B, o + j, none⟩ := by unfold Addr.add; split <;> simp_all
    rw [hadd]
    have hjn : j < n := by
      have := (List.getElem?_eq_some_iff.1 hj).1
      simp at this; omega
    simp only [List.getElem?_take, hjn, if_true, List.getElem?_drop] at hj
    simpa [World.cell?, hb] using hj)
  rwa [hlen] at h

theorem run_load_row {P : Program} {w : World} {B o : Nat} {arr : Array Value} {el : TypeId} {fr : Nat × Nat} {v : Value} (hb : w.heap[B]? = some (.cells arr el fr)) (hv : arr[o]? = some v) :
    (load ⟨B, o, none⟩).run P w = .ok v w := by
  simp [run_load, World.cell?, hb, hv]

theorem setCell_eq_setBlk {w : World} {B o : Nat} {arr : Array Value} {el : TypeId} {fr : Nat × Nat} (hb : w.heap[B]? = some (.cells arr el fr)) (v : Value) :
    w.setCell ⟨B, o, none⟩ v = w.setBlk B (.cells (arr.setIfInBounds o v) el fr) := by
  have hlt : B < w.heap.size := (Array.getElem?_eq_some_iff.1 hb).1
  unfold World.setCell World.setBlk
  congr 1
  apply Array.ext_getElem?
  intro i
  by_cases hi : i = B
  · subst hi
    have he : w.heap[i] = .cells arr el fr := (Array.getElem?_eq_some_iff.1 hb).2
    rw [Array.getElem?_modify, if_pos rfl, Array.getElem?_setIfInBounds_self_of_lt hlt, hb]
    simp
  · rw [Array.getElem?_modify, if_neg (Ne.symm hi), Array.getElem?_setIfInBounds_ne (Ne.symm hi)]

theorem setBlk_get {w : World} {B : Nat} {o x : Obj} (hb : w.heap[B]? = some x) : (w.setBlk B o).heap[B]? = some o := by
  have hlt : B < w.heap.size := (Array.getElem?_eq_some_iff.1 hb).1
  simp [World.setBlk, hlt]
theorem setBlk_other {w : World} {B C : Nat} {o : Obj} (h : C ≠ B) : (w.setBlk B o).heap[C]? = w.heap[C]? := by
  simp [World.setBlk, Array.getElem?_setIfInBounds_ne (Ne.symm h)]
theorem setBlk_setBlk {w : World} {B : Nat} {o o' : Obj} : (w.setBlk B o).setBlk B o' = w.setBlk B o' := by
  simp [World.setBlk]
theorem setBlk_same {w : World} {B : Nat} {o : Obj} (hb : w.heap[B]? = some o) : w.setBlk B o = w := by
  have hlt : B < w.heap.size := (Array.getElem?_eq_some_iff.1 hb).1
  have he : w.heap[B] = o := (Array.getElem?_eq_some_iff.1 hb).2
  unfold World.setBlk
  have : w.heap.setIfInBounds B o = w.heap := by
    apply Array.ext_getElem?
    intro i
    by_cases hi : i = B
    · subst hi; rw [Array.getElem?_setIfInBounds_self_of_lt hlt, hb]
    · rw [Array.getElem?_setIfInBounds_ne (Ne.symm hi)]
  rw [this]

theorem run_storeCells_row {P : Program} {B o : Nat} {el : TypeId} {fr : Nat × Nat} : ∀ (vs : List Value) (i : Nat) (arr : Array Value) (w : World), w.heap[B]? = some (.cells arr el fr) → o + i + vs.length ≤ arr.size →
    (∀ v ∈ vs, v.oneCell' = true) → (∀ j, j < arr.size → ¬ (fr.1 ≤ j ∧ j < fr.2)) →
    (storeCells ⟨B, o, none⟩ vs i).run P w = .ok () (w.setBlk B (.cells (setAt arr.toList (o + i) vs).toArray el fr))
  | [], i, arr, w, hb, _, _, _ => by simp [storeCells, setAt, setBlk_same hb]
  | v :: vs, i, arr, w, hb, hn, h1, hf => by
    have hadd : (⟨B, o, none⟩ : Addr).add i = ⟨B, o + i, none⟩ := by unfold Addr.add; split <;> simp_all
    have hlt : o + i < arr.size := by simp at hn; omega
    have hfz : w.frozen? ⟨B, o + i, none⟩ = false := by
      have := hf (o + i) hlt
      simp only [World.frozen?, hb]
      simpa using this
    have hst : (store ((⟨B, o, none⟩ : Addr).add i) v).run P w = .ok () (w.setBlk B (.cells (arr.setIfInBounds (o + i) v) el fr)) := by
      rw [hadd, run_store P w _ v _ (h1 v (by simp)), ← setCell_eq_setBlk hb]
      simp [World.cell?, hb, hlt, hfz]
    have ih := run_storeCells_row (P := P) (o := o) vs (i + 1) (arr.setIfInBounds (o + i) v) (w.setBlk B (.cells (arr.setIfInBounds (o + i) v) el fr)) (setBlk_get hb)
      (by simp at hn ⊢; omega) (fun x hx => h1 x (by simp [hx])) (by simpa using hf)
    simp only [storeCells, Sem.run_bind, hst, Result.andThen_ok, ih, setBlk_setBlk, setAt]
    rw [show o + (i + 1) = o + i + 1 by omega, Array.toList_setIfInBounds]

theorem VRL.setAt {μ : Mu} : ∀ {vs vs' : List Value} {cs cs' : List Value} (i : Nat), VRL μ cs cs' → VRL μ vs vs' → VRL μ (setAt cs i vs) (setAt cs' i vs')
  | _, _, _, _, i, hc, .nil => hc
  | _, _, _, _, i, hc, .cons hv t => VRL.setAt (i + 1) (VRL.set hv i hc) t

/-- A store in a window of a list. -/
theorem setAt_window : ∀ (vs arr : List Value) (o i len : Nat), ((setAt arr (o + i) vs).drop o).take len = setAt ((arr.drop o).take len) i vs
  | [], _, _, _, _ => rfl
  | v :: vs, arr, o, i, len => by
    have := setAt_window vs (arr.set (o + i) v) o (i + 1) len
    simp only [setAt]
    rw [show o + i + 1 = o + (i + 1) by omega, this]
    congr 1
    apply List.ext_getElem?
    intro j
    simp only [List.getElem?_take, List.getElem?_drop, List.getElem?_set, List.length_take, List.length_drop]
    by_cases hj : j < len
    · by_cases hij : i = j
      · subst hij
        by_cases hl : o + i < arr.length
        · have h2 : i < min len (arr.length - o) := by omega
          simp [hj, hl, h2]
        · have h2 : ¬ i < min len (arr.length - o) := by omega
          have h3 : arr.length ≤ o + i := by omega
          simp [hj, hl, h2]
      · have : ¬ o + i = o + j := by omega
        simp [hj, hij, this]
    · have h2 : ¬ j < min len (arr.length - o) := by omega
      by_cases hij : i = j
      · subst hij; simp [hj]; omega
      · simp [hj, hij]

theorem ObjRel.of_heap {μ : Mu} {m : Loc} {w w' : World} {o : AObj} (hb : w'.heap[m.B]? = w.heap[m.B]?) (h : ObjRel μ m w o) : ObjRel μ m w' o := by
  cases o with
  | row k es cs => obtain ⟨a, b, c, d, arr, el, fr, e, r⟩ := h; exact ⟨a, b, c, d, arr, el, fr, hb.trans e, r⟩
  | loop L => obtain ⟨a, r, e, q⟩ := h; exact ⟨a, r, hb.trans e, q⟩
theorem ObjRel.mono {μ μ' : Mu} (hx : Ext μ μ') {m : Loc} {w : World} {o : AObj} (h : ObjRel μ m w o) : ObjRel μ' m w o := by
  cases o with
  | row k es cs => obtain ⟨a, b, c, d, arr, el, fr, e, f, g, i⟩ := h; exact ⟨a, b, c, d, arr, el, fr, e, f, g.mono hx, i⟩
  | loop L => obtain ⟨a, r, e, f, g, i, j⟩ := h; exact ⟨a, r, e, f, g, i.mono hx, j⟩
theorem ObjRel.lt {μ : Mu} {m : Loc} {w : World} {o : AObj} (h : ObjRel μ m w o) : m.B < w.heap.size := by
  cases o with
  | row k es cs => obtain ⟨_, _, _, _, arr, el, fr, e, _⟩ := h; exact (Array.getElem?_eq_some_iff.1 e).1
  | loop L => obtain ⟨_, r, e, _⟩ := h; exact (Array.getElem?_eq_some_iff.1 e).1
theorem Rel.lt {μ : Mu} {h : Heap} {w : World} (hr : Rel μ h w) {b : Nat} {m : Loc} (hb : μ b = some m) (hl : (h.obj b).isSome = true) : m.B < w.heap.size := by
  obtain ⟨o, ho⟩ := Option.isSome_iff_exists.1 hl
  exact (hr.obj b m o hb ho).lt

/-- A new block. -/
theorem Step.alloc {μ : Mu} {h : Heap} {w : World} (hr : Rel μ h w) (hf : Fresh μ h) (m : Loc) (o : AObj) (ob : Obj) (hB : m.B = w.heap.size)
    (ho : ObjRel (upd μ h.nx (some m)) m (w.alloc ob) o) : Step μ (upd μ h.nx (some m)) h (h.push o) w (w.alloc ob) := by
  have hne : ∀ b m', μ b = some m' → b ≠ h.nx := fun b m' hb e => by have := hf.lt hb; omega
  have hx : Ext μ (upd μ h.nx (some m)) := fun b m' hb => by rw [upd_other _ _ (hne b m' hb)]; exact hb
  have hold : ∀ C, C < w.heap.size → (w.alloc ob).heap[C]? = w.heap[C]? := fun C hC => by
    show (w.heap.push ob)[C]? = _
    rw [Array.getElem?_push, if_neg (by omega)]
  refine ⟨hx, ?_, ?_, ⟨?_, ?_⟩, ?_, Nat.le_succ _, (fun b h1 h2 _ => by
    have h3 : b < h.nx + 1 := h2
    have h4 : b = h.nx := by omega
    subst h4; simp), ⟨rfl, rfl, rfl, by simp, fun B hB' _ => hold B hB'⟩⟩
  · intro b m' hb
    by_cases e : b = h.nx
    · subst e; simp at hb; subst hb; exact .inr ⟨Nat.le_refl _, .inl (by omega)⟩
    · rw [upd_other _ _ e] at hb; exact .inl hb
  · intro b hb hl
    have e : b ≠ h.nx := by omega
    simpa [Heap.push, upd_other _ _ e] using hl
  · intro b m' o' hb hob
    by_cases e : b = h.nx
    · subst e; simp at hb; subst hb; simp [Heap.push] at hob; subst hob; exact ho
    · rw [upd_other _ _ e] at hb
      simp only [Heap.push, upd_other _ _ e] at hob
      have h0 := hr.obj b m' o' hb hob
      exact (h0.of_heap (hold _ h0.lt)).mono hx
  · intro b b' m₁ m₂ hb hb' hl hl' hne' hk
    by_cases e : b = h.nx
    · subst e
      have e' : b' ≠ h.nx := fun x => hne' x.symm
      simp at hb; subst hb
      rw [upd_other _ _ e'] at hb'
      simp only [Heap.push, upd_other _ _ e'] at hl'
      have := hr.lt hb' hl'
      omega
    · rw [upd_other _ _ e] at hb
      simp only [Heap.push, upd_other _ _ e] at hl
      have h1 := hr.lt hb hl
      by_cases e' : b' = h.nx
      · subst e'; simp at hb'; subst hb'; omega
      · rw [upd_other _ _ e'] at hb'
        simp only [Heap.push, upd_other _ _ e'] at hl'
        exact hr.inj b b' m₁ m₂ hb hb' hl hl' hne' hk
  · intro b hb
    have : h.nx + 1 ≤ b := hb
    rw [upd_other _ _ (by omega)]
    exact hf b (by omega)

/-- A block is written. -/
theorem Step.put {μ : Mu} {h : Heap} {w : World} (hr : Rel μ h w) (hf : Fresh μ h) {b : Nat} {m : Loc} (hb : μ b = some m) (hl : (h.obj b).isSome = true) (hk : m.k ≠ .ro) (o : AObj) (ob : Obj)
    (ho : ObjRel μ m (w.setBlk m.B ob) o) : Step μ μ h (h.put b (some o)) w (w.setBlk m.B ob) := by
  have hlt := hf.lt hb
  refine ⟨.refl _, fun _ _ hm => .inl hm, ?_, ⟨?_, ?_⟩, hf, Nat.le_refl _, (fun _ h1 h2 _ => absurd h1 (Nat.not_le.2 h2)), ⟨rfl, rfl, rfl, by simp [World.setBlk], ?_⟩⟩
  · intro b' hb' hl'
    by_cases e : b' = b
    · subst e; exact hl
    · simpa [Heap.put, upd_other _ _ e] using hl'
  · intro b' m' o' hb' hob
    by_cases e : b' = b
    · subst e; rw [hb] at hb'; cases hb'; simp [Heap.put] at hob; subst hob; exact ho
    · simp only [Heap.put, upd_other _ _ e] at hob
      have hne := hr.inj b b' m m' hb hb' hl (by simp [hob]) (Ne.symm e) hk
      exact (hr.obj b' m' o' hb' hob).of_heap (setBlk_other (Ne.symm hne))
  · intro b₁ b₂ m₁ m₂ h1 h2 l1 l2 hne hk1
    have l1' : (h.obj b₁).isSome = true := by
      by_cases e : b₁ = b
      · subst e; exact hl
      · simpa [Heap.put, upd_other _ _ e] using l1
    have l2' : (h.obj b₂).isSome = true := by
      by_cases e : b₂ = b
      · subst e; exact hl
      · simpa [Heap.put, upd_other _ _ e] using l2
    exact hr.inj b₁ b₂ m₁ m₂ h1 h2 l1' l2' hne hk1
  · intro B _ hno
    exact setBlk_other (fun e => hno b m hb hl hk e.symm)

/-- A row is forgotten. -/
theorem Step.kill {μ : Mu} {h : Heap} {w : World} (hr : Rel μ h w) (hf : Fresh μ h) (b : Nat) : Step μ μ h (h.put b none) w w := by
  have hn : ∀ b', ((h.put b none).obj b').isSome = true → b' ≠ b ∧ (h.obj b').isSome = true := fun b' hl => by
    by_cases e : b' = b
    · subst e; simp [Heap.put] at hl
    · exact ⟨e, by simpa [Heap.put, upd_other _ _ e] using hl⟩
  refine ⟨.refl _, fun _ _ hm => .inl hm, fun b' _ hl => (hn b' hl).2, ⟨?_, ?_⟩, hf, Nat.le_refl _, (fun _ h1 h2 _ => absurd h1 (Nat.not_le.2 h2)), .refl _ _ _⟩
  · intro b' m' o' hb' hob
    have e := (hn b' (by simp [hob])).1
    simp only [Heap.put, upd_other _ _ e] at hob
    exact hr.obj b' m' o' hb' hob
  · intro b₁ b₂ m₁ m₂ h1 h2 l1 l2 hne hk1
    exact hr.inj b₁ b₂ m₁ m₂ h1 h2 (hn _ l1).2 (hn _ l2).2 hne hk1

/-- A row that grows in place: the elder id is forgotten, the new one has its block. -/
theorem Step.regrow {μ : Mu} {h : Heap} {w : World} (hr : Rel μ h w) (hf : Fresh μ h) {b : Nat} {m : Loc} (hb : μ b = some m) (hl : (h.obj b).isSome = true) (hk : m.k ≠ .ro) (m' : Loc) (hB : m'.B = m.B) (o : AObj) (ob : Obj)
    (ho : ObjRel (upd μ h.nx (some m')) m' (w.setBlk m.B ob) o) : Step μ (upd μ h.nx (some m')) h ((h.put b none).push o) w (w.setBlk m.B ob) := by
  have hne : ∀ b m', μ b = some m' → b ≠ h.nx := fun b m' hb e => by have := hf.lt hb; omega
  have hx : Ext μ (upd μ h.nx (some m')) := fun b m' hb => by rw [upd_other _ _ (hne b m' hb)]; exact hb
  have hlt := hf.lt hb
  have hobj : ∀ c, c ≠ h.nx → c ≠ b → ((h.put b none).push o).obj c = h.obj c := fun c h1 h2 => by
    simp [Heap.push, Heap.put, upd_other _ _ h1, upd_other _ _ h2]
  have hobjn : ((h.put b none).push o).obj h.nx = some o := by simp [Heap.push, Heap.put]
  have hobjb : ((h.put b none).push o).obj b = none := by
    simp [Heap.push, Heap.put, upd_other _ _ (show b ≠ h.nx by omega)]
  have hlive : ∀ c, c ≠ h.nx → (((h.put b none).push o).obj c).isSome = true → c ≠ b ∧ (h.obj c).isSome = true := fun c h1 h2 => by
    have e : c ≠ b := fun e => by subst e; rw [hobjb] at h2; simp at h2
    exact ⟨e, by rw [← hobj c h1 e]; exact h2⟩
  refine ⟨hx, ?_, ?_, ⟨?_, ?_⟩, ?_, Nat.le_succ _, (fun b h1 h2 _ => by
    have h3 : b < h.nx + 1 := h2
    have h4 : b = h.nx := by omega
    subst h4; simp), ⟨rfl, rfl, rfl, by simp [World.setBlk], ?_⟩⟩
  · intro c mc hc
    by_cases e : c = h.nx
    · subst e; simp at hc; subst hc; exact .inr ⟨Nat.le_refl _, .inr ⟨b, m, hb, hl, hk, hB.symm⟩⟩
    · rw [upd_other _ _ e] at hc; exact .inl hc
  · exact fun c hc hs => (hlive c (by omega) hs).2
  · intro c mc oc hc hoc
    by_cases e : c = h.nx
    · subst e; simp at hc; subst hc; rw [hobjn] at hoc; cases hoc; exact ho
    · rw [upd_other _ _ e] at hc
      have hcl := hlive c e (by simp [hoc])
      rw [hobj c e hcl.1] at hoc
      have hneB := hr.inj b c m mc hb hc hl hcl.2 (Ne.symm hcl.1) hk
      exact ((hr.obj c mc oc hc hoc).of_heap (setBlk_other (Ne.symm hneB))).mono hx
  · intro c d mc md hc hd lc ld hcd hkc
    by_cases ec : c = h.nx
    · subst ec
      have ed : d ≠ h.nx := Ne.symm hcd
      simp at hc; subst hc
      rw [upd_other _ _ ed] at hd
      have hdl := hlive d ed ld
      rw [hB]
      exact hr.inj b d m md hb hd hl hdl.2 (Ne.symm hdl.1) hk
    · rw [upd_other _ _ ec] at hc
      have hcl := hlive c ec lc
      by_cases ed : d = h.nx
      · subst ed
        simp at hd; subst hd
        rw [hB]
        exact Ne.symm (hr.inj b c m mc hb hc hl hcl.2 (Ne.symm hcl.1) hk)
      · rw [upd_other _ _ ed] at hd
        have hdl := hlive d ed ld
        exact hr.inj c d mc md hc hd hcl.2 hdl.2 hcd hkc
  · intro c hc
    have : h.nx + 1 ≤ c := hc
    rw [upd_other _ _ (by omega)]
    exact hf c (by omega)
  · intro B _ hno
    exact setBlk_other (fun e => hno b m hb hl hk e.symm)

/-- The count of draws alone turns. -/
theorem Step.heap_eq {μ : Mu} {h : Heap} {w w' : World} (hr : Rel μ h w) (hf : Fresh μ h) (hh : w'.heap = w.heap) (ho : w'.os = w.os) (ht : w'.tape = w.tape) (hu : w'.output = w.output) : Step μ μ h h w w' := by
  refine ⟨.refl _, fun _ _ hm => .inl hm, fun _ _ hs => hs, ⟨fun b m o hb hob => (hr.obj b m o hb hob).of_heap (by rw [hh]), hr.inj⟩, hf, Nat.le_refl _, (fun _ h1 h2 _ => absurd h1 (Nat.not_le.2 h2)), ho, ht, hu, by rw [hh]; exact Nat.le_refl _, fun _ _ _ => by rw [hh]⟩
theorem Step.drew {μ : Mu} {h : Heap} {w : World} (hr : Rel μ h w) (hf : Fresh μ h) : Step μ μ h h w w.drew := Step.heap_eq hr hf rfl rfl rfl rfl
end Go.Proofs.Ytfehhihllenjiaa
/- The operations, abstractly, and that the model's run follows them: memory. -/
set_option linter.all false
namespace Go.Proofs.Ytfehhihllenjiaa

def Sound (P : Program) (s : Sem Value) (μ : Mu) (h : Heap) (w : World) (v : Value) (h' : Heap) : Prop :=
  ∃ v' w' μ', s.run P w = .ok v' w' ∧ Step μ μ' h h' w w' ∧ VR μ' v v'

/-- A type's zero, where it is plain. -/
def zeroC (info : TypeInfo) : Option Value := match info.zero with
  | some z => if closedV 8 z = true then some z else none
  | none => none
theorem zeroC_spec {info : TypeInfo} {z : Value} (h : zeroC info = some z) : info.zero = some z ∧ closedV 8 z = true := by
  unfold zeroC at h
  split at h
  · rename_i z' hz
    split at h
    · rename_i hc
      cases h
      exact ⟨hz, hc⟩
    · cases h
  · cases h
structure ProgOk (P : Program) : Prop where
  mixed : P.follows .mixedOrders = true

def isAggD : TypeDesc → Bool
  | .struct _ | .array _ _ => true
  | _ => false
theorem run_isAgg {P : Program} {t : TypeId} {d : TypeDesc} (h : P.underlying t = some d) (w : World) : (isAgg t).run P w = .ok (isAggD d) w := by
  simp only [isAgg, Sem.run_bind, run_underlying h, Result.andThen_ok]
  cases d <;> rfl
theorem run_typeInfo {P : Program} {t : TypeId} {i : TypeInfo} (h : P.info? t = some i) (w : World) : (typeInfo t).run P w = .ok i w := by
  simp [typeInfo, h]
theorem run_sizeOf {P : Program} {t : TypeId} {i : TypeInfo} (h : P.info? t = some i) (w : World) : (sizeOf t).run P w = .ok i.size w := by
  simp [sizeOf, run_typeInfo h]
theorem run_zeroValue {P : Program} {t : TypeId} {i : TypeInfo} {z : Value} (h : P.info? t = some i) (hz : i.zero = some z) (w : World) : (zeroValue t).run P w = .ok z w := by
  simp [zeroValue, run_typeInfo h, hz]

theorem addr_add (B o n : Nat) : (⟨B, o, none⟩ : Addr).add n = ⟨B, o + n, none⟩ := by unfold Addr.add; split <;> simp_all

/-! load -/
def evLoad (P : Program) (t : TypeId) (a : Value) (h : Heap) : Option Value :=
  match a with
  | .pointer (some ⟨b, i, none⟩) =>
    match P.underlying t, P.info? t, h.obj b with
    | some d, some info, some (.row _ _ cs) =>
      if isAggD d then (if i + info.size ≤ cs.length then some (.agg ((cs.drop i).take info.size).toArray) else none) else cs[i]?
    | _, _, _ => none
  | _ => none

theorem evLoad_sound {P : Program} {t : TypeId} {a a' : Value} {h : Heap} {v : Value} {μ : Mu} {w : World} (he : evLoad P t a h = some v) (hr : Rel μ h w) (hf : Fresh μ h) (ha : VR μ a a') :
    ∃ v', (Instr.loadAt t a').run P w = .ok v' w ∧ VR μ v v' := by
  unfold evLoad at he
  split at he
  case h_2 => simp at he
  case h_1 b i =>
  cases ha with
  | ptr hb =>
  rename_i m
  split at he
  case h_2 => simp at he
  case h_1 d info k es cs hd hi ho =>
  obtain ⟨_, _, hlen, hroom, arr, el, fr, hblk, hsz, hvl, _⟩ := hr.obj b m _ hb ho
  simp only [Instr.loadAt, Instr.sureAddr, loadVar, Sem.run_bind, Sem.run_pure, Result.andThen_ok, run_isAgg hd]
  by_cases hg : isAggD d = true
  · simp only [hg, if_true] at he ⊢
    split at he
    case isFalse => simp at he
    case isTrue hle =>
    simp only [Option.some.injEq] at he
    subst he
    simp only [Sem.run_bind, run_sizeOf hi, Result.andThen_ok, run_loadCells_row hblk (show m.o + i + info.size ≤ arr.size by omega), Sem.run_pure]
    refine ⟨_, rfl, .agg ?_⟩
    have := (hvl.drop i).take info.size
    simp only [List.drop_take, List.drop_drop, List.take_take] at this
    rwa [Nat.min_eq_left (by omega)] at this
  · simp only [Bool.not_eq_true] at hg
    simp only [hg, Bool.false_eq_true, if_false] at he ⊢
    obtain ⟨v', hv', hvr⟩ := hvl.get he
    have hil : i < m.len := by
      have := (List.getElem?_eq_some_iff.1 he).1; omega
    have : arr[m.o + i]? = some v' := by
      simpa [List.getElem?_take, hil] using hv'
    exact ⟨v', run_load_row hblk this, hvr⟩

/-! store -/
def evStore (P : Program) (t : TypeId) (a v : Value) (h : Heap) : Option Heap :=
  match a with
  | .pointer (some ⟨b, i, none⟩) =>
    match P.info? t, h.obj b with
    | some info, some (.row k es cs) =>
      if k ≠ .ro ∧ v.cells.size = info.size ∧ i + info.size ≤ cs.length ∧ v.cells.toList.all (fun x => x.oneCell') = true then
        some (h.put b (some (.row k es (setAt cs i v.cells.toList)))) else none
    | _, _ => none
  | _ => none

theorem VRL.oneCell {μ : Mu} : ∀ {l l' : List Value}, VRL μ l l' → l.all (fun x => x.oneCell') = true → ∀ v ∈ l', v.oneCell' = true
  | _, _, .nil, _, v, hv => by simp at hv
  | _, _, .cons h t, ha, v, hv => by
    simp only [List.all_cons, Bool.and_eq_true] at ha
    rcases List.mem_cons.1 hv with rfl | hv
    · rw [h.oneCell]; exact ha.1
    · exact VRL.oneCell t ha.2 v hv

theorem row_write {μ : Mu} {m : Loc} {k : Kind} {es : Nat} {cs : List Value} {w : World} (h : RowRel μ m k es cs w) {arr : Array Value} {el : TypeId} {fr : Nat × Nat} (hb : w.heap[m.B]? = some (.cells arr el fr))
    {vs vs' : List Value} (hv : VRL μ vs vs') (i : Nat) : RowRel μ m k es (setAt cs i vs) (w.setBlk m.B (.cells (setAt arr.toList (m.o + i) vs').toArray el fr)) := by
  obtain ⟨h1, h2, h3, h4, arr2, el2, fr2, hb2, h5, h6, h7⟩ := h
  rw [hb] at hb2; cases hb2
  refine ⟨h1, h2, by simpa using h3, h4, _, _, _, setBlk_get hb, by simpa using h5, ?_, by simpa using h7⟩
  simp only [setAt_window]
  exact VRL.setAt i h6 hv

theorem evStore_sound {P : Program} {t : TypeId} {a a' v v' : Value} {h h' : Heap} {μ : Mu} {w : World} (he : evStore P t a v h = some h') (hr : Rel μ h w) (hf : Fresh μ h) (ha : VR μ a a') (hv : VR μ v v') :
    ∃ w', (Instr.storeAt t a' v').run P w = .ok () w' ∧ Step μ μ h h' w w' := by
  unfold evStore at he
  split at he
  case h_2 => simp at he
  case h_1 b i =>
  cases ha with
  | ptr hb =>
  rename_i m
  split at he
  case h_2 => simp at he
  case h_1 info k es cs hi ho =>
  split at he
  case isFalse => simp at he
  case isTrue hc =>
  obtain ⟨hk, hsize, hle, hone⟩ := hc
  simp only [Option.some.injEq] at he
  subst he
  have hrow := hr.obj b m _ hb ho
  obtain ⟨hmk, _, hlen, hroom, arr, el, fr, hblk, hsz, hvl, hfz⟩ := id hrow
  have hcl := hv.cells
  have hcs : v'.cells.size = info.size := by have := hcl.length; simp at this; omega
  have hst := run_storeCells_row (P := P) (o := m.o + i) v'.cells.toList 0 arr w hblk (by simp; omega) (hcl.oneCell hone) (hfz hk).2
  simp only [Nat.add_zero] at hst
  exact ⟨w.setBlk m.B (.cells (setAt arr.toList (m.o + i) v'.cells.toList).toArray el fr), by simp [Instr.storeAt, Instr.sureAddr, storeVar, run_sizeOf hi, hcs, hst],
    Step.put hr hf hb (by simp [ho]) (by rw [hmk]; exact hk) (.row k es (setAt cs i v.cells.toList)) (.cells (setAt arr.toList (m.o + i) v'.cells.toList).toArray el fr) (row_write hrow hblk hcl i)⟩

/-! alloc, box -/
def newRowH (h : Heap) (k : Kind) (es : Nat) (cs : List Value) : Heap := h.push (.row k es cs)
def evBox (v : Value) (h : Heap) : Option (Value × Heap) :=
  if v.cells.toList.all (fun x => x.oneCell') = true then some (.pointer (some ⟨h.nx, 0, none⟩), newRowH h .rw 1 v.cells.toList) else none
def evAlloc (P : Program) (t : TypeId) (h : Heap) : Option (Value × Heap) :=
  match P.info? t with
  | some info => match zeroC info with
    | some z => some (.pointer (some ⟨h.nx, 0, none⟩), newRowH h .rw 1 z.cells.toList)
    | none => none
  | none => none

theorem alloc_get (w : World) (o : Obj) : (w.alloc o).heap[w.heap.size]? = some o := by
  show (w.heap.push o)[w.heap.size]? = _
  simp

theorem push_row {μ : Mu} {h : Heap} {w : World} (hr : Rel μ h w) (hf : Fresh μ h) (k : Kind) (es : Nat) (cs : List Value) (arr : Array Value) (el : TypeId) (fr : Nat × Nat)
    (hv : VRL μ cs (arr.toList.take cs.length)) (hfr : ∀ j, j < arr.size → ¬ (fr.1 ≤ j ∧ j < fr.2)) (hle : fr.1 ≤ fr.2 := by first | exact Nat.le_refl _ | exact Nat.le_succ _ | assumption | omega | simp) :
    Step μ (upd μ h.nx (some ⟨w.heap.size, 0, cs.length, arr.size, es, k⟩)) h (newRowH h k es cs) w (w.alloc (.cells arr el fr)) := by
  have hx : Ext μ (upd μ h.nx (some ⟨w.heap.size, 0, cs.length, arr.size, es, k⟩)) := fun b m' hb => by
    have := hf.lt hb
    rw [upd_other _ _ (by omega)]; exact hb
  have hlen : cs.length ≤ arr.size := by have := hv.length; simp at this; omega
  refine Step.alloc hr hf _ _ _ rfl ⟨rfl, rfl, rfl, hlen, arr, el, fr, alloc_get w _, by simp, ?_, fun _ => ⟨hle, hfr⟩⟩
  simpa using hv.mono hx

theorem evBox_sound {P : Program} {t : TypeId} {v v' r : Value} {h h' : Heap} {μ : Mu} {w : World} (he : evBox v h = some (r, h')) (hr : Rel μ h w) (hf : Fresh μ h) (hv : VR μ v v') :
    Sound P (Instr.box t v') μ h w r h' := by
  unfold evBox at he
  split at he
  case isFalse => simp at he
  case isTrue hone =>
  simp only [Option.some.injEq, Prod.mk.injEq] at he
  obtain ⟨rfl, rfl⟩ := he
  have hl := hv.cells.length
  have hp := push_row hr hf .rw 1 v.cells.toList v'.cells t (0, 0) (by rw [hl, List.take_length]; exact hv.cells) (by simp)
  refine ⟨_, _, _, ?_, hp, .ptr (i := 0) (upd_same _ _ _)⟩
  simp [Instr.box, newVar, newRow]

theorem evAlloc_sound {P : Program} (hP : ProgOk P) {t : TypeId} {r : Value} {h h' : Heap} {μ : Mu} {w : World} (he : evAlloc P t h = some (r, h')) (hr : Rel μ h w) (hf : Fresh μ h) :
    Sound P (Instr.alloc t true (.tuple #[])) μ h w r h' := by
  unfold evAlloc at he
  split at he
  case h_2 => simp at he
  case h_1 info hi =>
  split at he
  case h_2 => simp at he
  case h_1 z hz =>
  obtain ⟨hz, hzq⟩ := zeroC_spec hz
  simp only [Option.some.injEq, Prod.mk.injEq] at he
  obtain ⟨rfl, rfl⟩ := he
  have hcl := (VR.closed (μ := μ) 8 z hzq).cells
  have hp := push_row hr hf .rw 1 z.cells.toList z.cells t (0, 0) (by rw [List.take_length]; exact hcl) (by simp)
  refine ⟨_, _, _, ?_, hp, .ptr (i := 0) (upd_same _ _ _)⟩
  simp [Instr.alloc, run_zeroValue hi hz, newVar, newRow]

/-! parts of a value -/
def evPart (P : Program) (t : TypeId) (cs : Array Value) (off : Nat) : Option Value :=
  match P.underlying t, P.info? t with
  | some d, some info => if isAggD d then some (.agg (cs.extract off (off + info.size))) else cs[off]?
  | _, _ => none
theorem evPart_sound {P : Program} {t : TypeId} {cs cs' : Array Value} {off : Nat} {v : Value} {μ : Mu} (he : evPart P t cs off = some v) (hc : VRL μ cs.toList cs'.toList) (w : World) :
    ∃ v', (part t cs' off).run P w = .ok v' w ∧ VR μ v v' := by
  unfold evPart at he
  split at he
  case h_2 => simp at he
  case h_1 d info hd hi =>
  simp only [part, Sem.run_bind, run_isAgg hd, Result.andThen_ok]
  by_cases hg : isAggD d = true
  · simp only [hg, if_true, Option.some.injEq] at he ⊢
    subst he
    simp only [Sem.run_bind, run_sizeOf hi, Result.andThen_ok, Sem.run_pure]
    refine ⟨_, rfl, .agg ?_⟩
    simpa [Array.toList_extract] using (hc.drop off).take info.size
  · simp only [Bool.not_eq_true] at hg
    simp only [hg, Bool.false_eq_true, if_false] at he ⊢
    obtain ⟨v', hv', hvr⟩ := hc.get (i := off) (v := v) (by simpa using he)
    have : cs'[off]? = some v' := by simpa using hv'
    exact ⟨v', by simp [this], hvr⟩

def evField (P : Program) (t : TypeId) (v : Value) (f : Nat) : Option Value :=
  match P.underlying t, v with
  | some (.struct fields), .agg cs => match fields[f]? with
    | some fd => evPart P fd.type cs fd.offset
    | none => none
  | _, _ => none
theorem evField_sound {P : Program} {t : TypeId} {v v' r : Value} {f : Nat} {μ : Mu} (he : evField P t v f = some r) (hv : VR μ v v') (w : World) : ∃ r', (Instr.field t v' f).run P w = .ok r' w ∧ VR μ r r' := by
  unfold evField at he
  split at he
  case h_2 => simp at he
  case h_1 fields cs hd =>
  cases hv with
  | agg hc =>
  rename_i cs'
  split at he
  case h_2 => simp at he
  case h_1 fd hfd =>
  obtain ⟨r', hr', hvr⟩ := evPart_sound he hc w
  exact ⟨r', by simp [Instr.field, run_underlying hd, hfd, asAgg, hr'], hvr⟩

def evFieldAddr (P : Program) (t : TypeId) (v : Value) (f : Nat) : Option Value :=
  match P.underlying t, v with
  | some (.struct fields), .pointer (some ⟨b, i, none⟩) => match fields[f]? with
    | some fd => match P.info? fd.type with
      | some info => if info.size = 0 then none else some (.pointer (some ⟨b, i + fd.offset, none⟩))
      | none => none
    | none => none
  | _, _ => none
theorem evFieldAddr_sound {P : Program} {t : TypeId} {v v' r : Value} {f : Nat} {μ : Mu} (he : evFieldAddr P t v f = some r) (hv : VR μ v v') (w : World) : ∃ r', (Instr.fieldAt t v' f).run P w = .ok r' w ∧ VR μ r r' := by
  unfold evFieldAddr at he
  split at he
  case h_2 => simp at he
  case h_1 fields b i hd =>
  cases hv with
  | ptr hb =>
  rename_i m
  split at he
  case h_2 => simp at he
  case h_1 fd hfd =>
  split at he
  case h_2 => simp at he
  case h_1 info hi =>
  split at he
  case isTrue => simp at he
  case isFalse hs =>
  simp only [Option.some.injEq] at he
  subst he
  refine ⟨.pointer (some ⟨m.B, m.o + (i + fd.offset), none⟩), ?_, .ptr hb⟩
  simp [Instr.fieldAt, run_underlying hd, hfd, Instr.sureAddr, fieldPlace, run_sizeOf hi, hs, addr_add, Nat.add_assoc]

def evInt : Value → Option Int
  | .int _ n => some n
  | _ => none
def evIndexAddr (P : Program) (t : TypeId) (x ix : Value) : Option Value :=
  match evInt ix, P.underlying t, x with
  | some i, some (.array len elem), .pointer (some ⟨b, o, none⟩) => match P.info? elem with
    | some info => if 0 ≤ i ∧ i < len then some (.pointer (some ⟨b, o + i.toNat * info.size, none⟩)) else none
    | none => none
  | some i, some (.slice elem), .slice (some ⟨b, o, none⟩) len _ => match P.info? elem with
    | some info => if 0 ≤ i ∧ i < len then some (.pointer (some ⟨b, o + i.toNat * info.size, none⟩)) else none
    | none => none
  | _, _, _ => none
theorem evInt_run {v v' : Value} {i : Int} {μ : Mu} (he : evInt v = some i) (hv : VR μ v v') {P : Program} (w : World) : ∃ k, v' = .int k i ∧ (asIntOf v').run P w = .ok (k, i) w := by
  unfold evInt at he
  split at he
  · simp only [Option.some.injEq] at he; subst he; cases hv; exact ⟨_, rfl, rfl⟩
  · simp at he
theorem evIndexAddr_sound {P : Program} {t : TypeId} {x x' ix ix' r : Value} {μ : Mu} (he : evIndexAddr P t x ix = some r) (hx : VR μ x x') (hix : VR μ ix ix') (w : World) :
    ∃ r', (Instr.indexAt t x' ix').run P w = .ok r' w ∧ VR μ r r' := by
  unfold evIndexAddr at he
  split at he
  · rename_i i len elem b o hi hd
    obtain ⟨k, rfl, hk⟩ := evInt_run hi hix (P := P) w
    cases hx with
    | ptr hb =>
    rename_i m
    split at he
    case h_2 => simp at he
    case h_1 info hin =>
    split at he
    case isFalse => simp at he
    case isTrue hlt =>
    simp only [Option.some.injEq] at he
    subst he
    refine ⟨.pointer (some ⟨m.B, m.o + (o + i.toNat * info.size), none⟩), ?_, .ptr hb⟩
    simp [Instr.indexAt, hk, run_underlying hd, Instr.sureAddr, hlt, run_sizeOf hin, addr_add, Nat.add_assoc]
  · rename_i i elem b o len c hi hd
    obtain ⟨k, rfl, hk⟩ := evInt_run hi hix (P := P) w
    cases hx with
    | slice hb hc =>
    rename_i C m
    split at he
    case h_2 => simp at he
    case h_1 info hin =>
    split at he
    case isFalse => simp at he
    case isTrue hlt =>
    simp only [Option.some.injEq] at he
    subst he
    refine ⟨.pointer (some ⟨m.B, m.o + (o + i.toNat * info.size), none⟩), ?_, .ptr hb⟩
    simp [Instr.indexAt, hk, run_underlying hd, hlt, run_sizeOf hin, addr_add, Nat.add_assoc]
  · simp at he

def evIndex (P : Program) (t : TypeId) (x ix : Value) : Option Value :=
  match evInt ix, P.underlying t, x with
  | some i, some (.array len elem), .agg cs => match P.info? elem with
    | some info => if 0 ≤ i ∧ i < len then evPart P elem cs (i.toNat * info.size) else none
    | none => none
  | some i, some .string, .string s => if 0 ≤ i then (s[i.toNat]?).map fun b => .int .u8 b.toNat else none
  | _, _, _ => none
theorem evIndex_sound {P : Program} {t : TypeId} {x x' ix ix' r : Value} {μ : Mu} (he : evIndex P t x ix = some r) (hx : VR μ x x') (hix : VR μ ix ix') (w : World) :
    ∃ r', (Instr.index t x' ix').run P w = .ok r' w ∧ VR μ r r' := by
  unfold evIndex at he
  split at he
  · rename_i i len elem cs hi hd
    obtain ⟨k, rfl, hk⟩ := evInt_run hi hix (P := P) w
    cases hx with
    | agg hc =>
    rename_i cs'
    split at he
    case h_2 => simp at he
    case h_1 info hin =>
    split at he
    case isFalse => simp at he
    case isTrue hlt =>
    obtain ⟨r', hr', hvr⟩ := evPart_sound he hc w
    exact ⟨r', by simp [Instr.index, hk, run_underlying hd, hlt, run_sizeOf hin, hr'], hvr⟩
  · rename_i i s hi hd
    obtain ⟨k, rfl, hk⟩ := evInt_run hi hix (P := P) w
    cases hx
    split at he
    case isFalse => simp at he
    case isTrue h0 =>
    cases hb : s[i.toNat]? with
    | none => simp [hb] at he
    | some b =>
      simp only [hb, Option.map_some, Option.some.injEq] at he
      subst he
      exact ⟨_, by simp [Instr.index, hk, run_underlying hd, h0, hb], .int _ _⟩
  · simp at he

def evExtract (v : Value) (k : Nat) : Option Value :=
  match v with
  | .tuple vs => vs[k]?
  | _ => none
theorem evExtract_sound {P : Program} {v v' r : Value} {k : Nat} {μ : Mu} (he : evExtract v k = some r) (hv : VR μ v v') (w : World) : ∃ r', (Instr.extract v' k).run P w = .ok r' w ∧ VR μ r r' := by
  unfold evExtract at he
  split at he
  case h_2 => simp at he
  case h_1 vs =>
  cases hv with
  | tuple hc =>
  rename_i vs'
  obtain ⟨r', hr', hvr⟩ := hc.get (i := k) (v := r) (by simpa using he)
  have : vs'[k]? = some r' := by simpa using hr'
  exact ⟨r', by simp [Instr.extract, this], hvr⟩
end Go.Proofs.Ytfehhihllenjiaa
/- Operations that make memory, slices, append and copy. -/
set_option linter.all false
namespace Go.Proofs.Ytfehhihllenjiaa

/-! build -/
theorem foldl_setAt : ∀ (vs : List Value) (k off : Nat) (arr : Array Value), ((vs.zipIdx k).foldl (fun cs (p : Value × Nat) => cs.setIfInBounds (off + p.2) p.1) arr).toList = setAt arr.toList (off + k) vs
  | [], _, _, _ => rfl
  | v :: vs, k, off, arr => by
    simp only [List.zipIdx_cons, List.foldl_cons, setAt]
    rw [foldl_setAt vs (k + 1) off, Array.toList_setIfInBounds]
    rw [show off + (k + 1) = off + k + 1 by omega]

def fillL (place : Nat → Option (Nat × Nat)) (cells : List Value) : List (Nat × Value) → Option (List Value)
  | [] => some cells
  | (i, v) :: rest =>
    match place i with
    | none => none
    | some (off, size) => if v.cells.size ≠ size ∨ off + v.cells.size > cells.length then none else fillL place (setAt cells off v.cells.toList) rest

theorem fill_sound {μ : Mu} {place place' : Nat → Option (Nat × Nat)} (hp : ∀ i r, place i = some r → place' i = some r) {f g : Operand → Value} : ∀ (ps : List (Nat × Operand)) (cells : List Value) (cells' : Array Value) (r : List Value),
    VRL μ cells cells'.toList → (∀ p ∈ ps, VR μ (f p.2) (g p.2)) → fillL place cells (ps.map fun p => (p.1, f p.2)) = some r →
    ∃ r', Instr.fill place' cells' (ps.map fun p => (p.1, g p.2)) = some r' ∧ VRL μ r r'.toList
  | [], cells, cells', r, hc, _, h => by
    simp only [List.map_nil, fillL, Option.some.injEq] at h
    subst h
    exact ⟨cells', rfl, hc⟩
  | p :: ps, cells, cells', r, hc, hv, h => by
    simp only [List.map_cons, fillL] at h
    have hvp := hv p (by simp)
    have hcl := hvp.cells
    have hlen := hcl.length
    simp only [Array.length_toList] at hlen
    have hcl' := hc.length
    simp only [Array.length_toList] at hcl'
    split at h
    case h_1 => simp at h
    case h_2 off size hpl =>
    split at h
    case isTrue => simp at h
    case isFalse hn =>
    obtain ⟨r', hr', hvr⟩ := fill_sound hp ps _ ((g p.2).cells.zipIdx.foldl (fun cs (p : Value × Nat) => cs.setIfInBounds (off + p.2) p.1) cells') r (by
      rw [← Array.foldl_toList, Array.toList_zipIdx, foldl_setAt]
      exact VRL.setAt _ hc hcl) (fun q hq => hv q (by simp [hq])) h
    refine ⟨r', ?_, hvr⟩
    simp only [List.map_cons, Instr.fill, hp _ _ hpl]
    have hne : ((g p.2).cells.size != size || decide (off + (g p.2).cells.size > cells'.size)) = false := by
      rw [← hlen, ← hcl']
      simp only [Bool.or_eq_false_iff, bne_eq_false_iff_eq, decide_eq_false_iff_not]
      omega
    have hne1 : ¬ ((g p.2).cells.size ≠ size ∨ off + (g p.2).cells.size > cells'.size) := by omega
    simpa [hne1] using hr'

def evBuild (P : Program) (t : TypeId) (parts : List (Nat × Value)) : Option Value :=
  match P.underlying t, P.info? t with
  | some (.struct fields), some info => match zeroC info with
    | some z => if fields.toList.all (fun f => (P.info? f.type).isSome) then
        (fillL (fun i => (fields[i]?).bind fun f => (P.info? f.type).map fun fi => (f.offset, fi.size)) z.cells.toList parts).map fun l => .agg l.toArray else none
    | none => none
  | some (.array _ elem), some info => match zeroC info, P.info? elem with
    | some z, some ei => (fillL (fun i => some (i * ei.size, ei.size)) z.cells.toList parts).map fun l => .agg l.toArray
    | _, _ => none
  | _, _ => none

theorem mapM_places {P : Program} (w : World) : ∀ (l : List Field), l.all (fun f => (P.info? f.type).isSome) = true →
    (l.mapM fun f => Prod.mk f.offset <$> sizeOf f.type : Sem (List (Nat × Nat))).run P w = .ok (l.map fun f => (f.offset, P.cellsOf f.type)) w
  | [], _ => rfl
  | f :: l, h => by
    simp only [List.all_cons, Bool.and_eq_true] at h
    obtain ⟨i, hi⟩ := Option.isSome_iff_exists.1 h.1
    have ih := mapM_places w l h.2
    simp only [List.mapM_cons, Sem.run_bind, Sem.run_map, run_sizeOf hi, Result.andThen_ok, ih, Sem.run_pure]
    simp [Program.cellsOf, hi]

theorem evBuild_sound {P : Program} (hP : ProgOk P) {t : TypeId} {f g : Operand → Value} {ps : List (Nat × Operand)} {r : Value} {μ : Mu} (he : evBuild P t (ps.map fun p => (p.1, f p.2)) = some r)
    (hv : ∀ p ∈ ps, VR μ (f p.2) (g p.2)) (w : World) : ∃ r', (Instr.build t (ps.map fun p => (p.1, g p.2)).toArray).run P w = .ok r' w ∧ VR μ r r' := by
  unfold evBuild at he
  split at he
  · rename_i fields info hd hi
    split at he
    case h_2 => simp at he
    case h_1 z hz =>
    obtain ⟨hz, hzq⟩ := zeroC_spec hz
    split at he
    case isFalse => simp at he
    case isTrue hall =>
    obtain ⟨l, hl, rfl⟩ := Option.map_eq_some_iff.1 he
    have hcl := (VR.closed (μ := μ) 8 z hzq).cells
    obtain ⟨l', hl', hvl⟩ := fill_sound (place' := ((fields.toList.map fun f => (f.offset, P.cellsOf f.type)).toArray[·]?)) (by
      intro i r hr
      simp only [Option.bind_eq_some_iff, Option.map_eq_some_iff] at hr
      obtain ⟨fd, hfd, fi, hfi, rfl⟩ := hr
      simp [hfd, Program.cellsOf, hfi]) ps _ z.cells l hcl hv hl
    refine ⟨.agg l', ?_, .agg (by simpa using hvl)⟩
    have hm := mapM_places (P := P) w fields.toList hall
    simp [Instr.build, run_zeroValue hi hz, run_underlying hd, Array.mapM_eq_mapM_toList, hm]
    simp at hl'
    simp [hl']
  · rename_i n elem info hd hi
    split at he
    case h_2 => simp at he
    case h_1 z ei hz hei =>
    obtain ⟨hz, hzq⟩ := zeroC_spec hz
    obtain ⟨l, hl, rfl⟩ := Option.map_eq_some_iff.1 he
    have hcl := (VR.closed (μ := μ) 8 z hzq).cells
    obtain ⟨l', hl', hvl⟩ := fill_sound (place' := fun i => some (i * ei.size, ei.size)) (fun _ _ h => h) ps _ z.cells l hcl hv hl
    refine ⟨.agg l', ?_, .agg (by simpa using hvl)⟩
    simp [Instr.build, run_zeroValue hi hz, run_underlying hd, run_sizeOf hei, hl']
  · simp at he

/-! zero cells -/
def zeroCellsL (z : List Value) (n : Nat) : List Value :=
  match z with
  | [v] => List.replicate n v
  | _ => (List.range (n * z.length)).map fun i => z.getD (i % z.length) default

theorem closed_default (μ : Mu) : VR μ (default : Value) default := .bool _
theorem zero_getD {μ : Mu} {z : List Value} (hz : VRL μ z z) (i : Nat) : VR μ (z.getD i default) (z.getD i default) := by
  cases h : z[i]? with
  | none => simp [List.getD, h]; exact closed_default μ
  | some v => obtain ⟨v', hv', r⟩ := hz.get h; rw [h] at hv'; cases hv'; simp [List.getD, h]; exact r
theorem zeroCells_rel {μ : Mu} {z : Array Value} (hz : VRL μ z.toList z.toList) (n : Nat) : VRL μ (zeroCellsL z.toList n) (((Array.range (n * z.size)).map fun i => z[i % z.size]!).toList) := by
  have key : VRL μ ((List.range (n * z.size)).map fun i => z.toList.getD (i % z.size) default) (((Array.range (n * z.size)).map fun i => z[i % z.size]!).toList) := by
    rw [Array.toList_map, Array.toList_range]
    refine VRL.map_range _ _ _ fun i _ => ?_
    have : z[i % z.size]! = z.toList.getD (i % z.size) default := by
      simp [List.getD, Array.getElem!_eq_getD, Array.getD_eq_getD_getElem?]
    rw [this]
    exact zero_getD hz _
  unfold zeroCellsL
  split
  · rename_i v hv
    have h1 : z.size = 1 := by have := congrArg List.length hv; simpa using this
    have : ((List.range (n * z.size)).map fun i => z.toList.getD (i % z.size) default) = List.replicate n v := by
      apply List.ext_getElem?
      intro i
      rw [hv, h1]
      simp only [Nat.mul_one, Nat.mod_one, List.getElem?_map, List.getElem?_replicate]
      by_cases h : i < n <;> simp [h, List.getD]
    rwa [this] at key
  · simpa using key
theorem zeroCellsL_length (z : List Value) (n : Nat) : (zeroCellsL z n).length = n * z.length := by
  unfold zeroCellsL; split <;> simp
theorem map_range_zero {α : Type} (f : Nat → α) : (Array.range 0).map f = #[] := by apply Array.ext'; simp

/-! a literal slice -/
def emptyS : Value := .slice (some ⟨0, 0, some 0⟩) 0 0
def anyS : Value := .slice (some ⟨0, 0, some 1⟩) 0 0
def evBuildSlice (P : Program) (t : TypeId) (len : Nat) (parts : List (Nat × Value)) (h : Heap) : Option (Value × Heap) :=
  match P.underlying t with
  | some (.slice elem) => match P.info? elem with
    | some info => match zeroC info with
      | some z =>
        if len = 0 then (if parts.isEmpty then some (emptyS, h) else none)
        else if z.cells.size = info.size ∧ 0 < info.size ∧ len * info.size ≤ 2 ^ 24 then
          match fillL (fun i => some (i * info.size, info.size)) (zeroCellsL z.cells.toList len) parts with
          | some l => some (.slice (some ⟨h.nx, 0, none⟩) len len, newRowH h .rw info.size l)
          | none => none
        else none
      | none => none
    | none => none
  | _ => none

theorem evBuildSlice_sound {P : Program} (hP : ProgOk P) {t : TypeId} {len : Nat} {f g : Operand → Value} {ps : List (Nat × Operand)} {r : Value} {h h' : Heap} {μ : Mu} {w : World}
    (he : evBuildSlice P t len (ps.map fun p => (p.1, f p.2)) h = some (r, h')) (hr : Rel μ h w) (hf : Fresh μ h) (hv : ∀ p ∈ ps, VR μ (f p.2) (g p.2)) :
    Sound P (Instr.buildSlice t len (ps.map fun p => (p.1, g p.2)).toArray) μ h w r h' := by
  unfold evBuildSlice at he
  split at he
  case h_2 => simp at he
  case h_1 elem hd =>
  split at he
  case h_2 => simp at he
  case h_1 info hi =>
  split at he
  case h_2 => simp at he
  case h_1 z hz =>
  obtain ⟨hz, hzq⟩ := zeroC_spec hz
  split at he
  · rename_i hlen
    subst hlen
    split at he
    case isFalse => simp at he
    case isTrue hps =>
    simp only [Option.some.injEq, Prod.mk.injEq] at he
    obtain ⟨rfl, rfl⟩ := he
    have hps' : ps = [] := by cases ps with | nil => rfl | cons a l => simp at hps
    subst hps'
    refine ⟨.slice (some ⟨w.heap.size, 0, none⟩) 0 0, w.alloc (.cells #[] elem), upd μ h.nx none, ?_, ?_, .empty0 _⟩
    · simp [Instr.buildSlice, run_underlying hd, run_sizeOf hi, Instr.fill, newRow, map_range_zero]
    · have : upd μ h.nx none = μ := by
        funext b; by_cases hb : b = h.nx
        · subst hb; rw [upd_same]; exact (hf _ (Nat.le_refl _)).symm
        · exact upd_other _ _ hb
      rw [this]
      have hold : ∀ C, C < w.heap.size → (w.alloc (.cells #[] elem)).heap[C]? = w.heap[C]? := fun C hC => by
        show (w.heap.push _)[C]? = _
        rw [Array.getElem?_push, if_neg (by omega)]
      exact ⟨.refl _, fun _ _ hm => .inl hm, fun _ _ hs => hs, ⟨fun b m o hb ho => (hr.obj b m o hb ho).of_heap (hold _ (hr.obj b m o hb ho).lt), hr.inj⟩, hf, Nat.le_refl _, (fun _ h1 h2 _ => absurd h1 (Nat.not_le.2 h2)), ⟨rfl, rfl, rfl, by simp, fun B hB _ => hold B hB⟩⟩
  · rename_i hlen
    split at he
    case isFalse => simp at he
    case isTrue hc =>
    obtain ⟨hzs, hpos, hbig⟩ := hc
    split at he
    case h_2 => simp at he
    case h_1 l hl =>
    simp only [Option.some.injEq, Prod.mk.injEq] at he
    obtain ⟨rfl, rfl⟩ := he
    have hcl := (VR.closed (μ := μ) 8 z hzq).cells
    have hzc := zeroCells_rel hcl len
    rw [hzs] at hzc
    obtain ⟨l', hl', hvl⟩ := fill_sound (place' := fun i => some (i * info.size, info.size)) (fun _ _ h => h) ps _ _ l hzc hv hl
    have hne : ¬ len * info.size = 0 := by
      have := Nat.mul_pos (Nat.pos_of_ne_zero hlen) hpos; omega
    have hp := push_row hr hf .rw info.size l l' elem (0, 0) (by rw [hvl.length, List.take_length]; exact hvl) (by simp)
    refine ⟨_, _, _, ?_, hp, .slice (i := 0) (upd_same _ _ _) (.inl rfl)⟩
    rw [hzs.symm] at hl'
    simp [Instr.buildSlice, run_underlying hd, run_sizeOf hi, show ¬ 2 ^ 24 < len * info.size by omega, hne, run_zeroValue hi hz, newRow]
    rw [← hzs]
    simp [hl']

/-! make -/
def evMakeSlice (P : Program) (t : TypeId) (len cap : Value) (h : Heap) : Option (Value × Heap) :=
  match P.underlying t, evInt len, evInt cap with
  | some (.slice elem), some l, some c => match P.info? elem with
    | some info => match zeroC info with
      | some z =>
        if 0 ≤ l ∧ l ≤ c ∧ info.bytes * c ≤ 2 ^ 48 ∧ c ≤ 2 ^ 48 ∧ z.cells.size = info.size ∧ 0 < info.size then
          if c = 0 then some (emptyS, h)
          else some (.slice (some ⟨h.nx, 0, none⟩) l.toNat c.toNat, newRowH h .rw info.size (zeroCellsL z.cells.toList c.toNat))
        else none
      | none => none
    | none => none
  | _, _, _ => none

theorem wrap_i64 {n : Int} (h0 : 0 ≤ n) (h : n ≤ 2 ^ 48) : IntKind.i64.wrap n = n := by
  simp [IntKind.wrap, IntKind.signed, IntKind.bits]
  omega

theorem alloc_none {μ : Mu} {h : Heap} {w : World} (hr : Rel μ h w) (hf : Fresh μ h) (o : Obj) : Step μ μ h h w (w.alloc o) := by
  have hold : ∀ C, C < w.heap.size → (w.alloc o).heap[C]? = w.heap[C]? := fun C hC => by
    show (w.heap.push _)[C]? = _
    rw [Array.getElem?_push, if_neg (by omega)]
  exact ⟨.refl _, fun _ _ hm => .inl hm, fun _ _ hs => hs, ⟨fun b m o hb ho => (hr.obj b m o hb ho).of_heap (hold _ (hr.obj b m o hb ho).lt), hr.inj⟩, hf, Nat.le_refl _, (fun _ h1 h2 _ => absurd h1 (Nat.not_le.2 h2)), ⟨rfl, rfl, rfl, by simp, fun B hB _ => hold B hB⟩⟩

theorem evInt_asInt {v v' : Value} {i : Int} {μ : Mu} (he : evInt v = some i) (hv : VR μ v v') {P : Program} (w : World) : (asInt v').run P w = .ok i w := by
  obtain ⟨k, rfl, hk⟩ := evInt_run he hv (P := P) w
  simp [asInt, hk]

theorem evMakeSlice_sound {P : Program} (hP : ProgOk P) {t : TypeId} {len cap len' cap' r : Value} {h h' : Heap} {μ : Mu} {w : World}
    (he : evMakeSlice P t len cap h = some (r, h')) (hr : Rel μ h w) (hf : Fresh μ h) (h1 : VR μ len len') (h2 : VR μ cap cap') : Sound P (Instr.makeSlice t len' cap') μ h w r h' := by
  unfold evMakeSlice at he
  split at he
  case h_2 => simp at he
  case h_1 elem l c hd hl hc =>
  split at he
  case h_2 => simp at he
  case h_1 info hi =>
  split at he
  case h_2 => simp at he
  case h_1 z hz =>
  obtain ⟨hz, hzq⟩ := zeroC_spec hz
  split at he
  case isFalse => simp at he
  case isTrue hcnd =>
  obtain ⟨h0, hlc, hb, hc48, hzs, hpos⟩ := hcnd
  have el := evInt_asInt hl h1 (P := P)
  have ec := evInt_asInt hc h2 (P := P)
  have hcl := (VR.closed (μ := μ) 8 z hzq).cells
  have wl := wrap_i64 h0 (by omega)
  have wc := wrap_i64 (n := c) (by omega) hc48
  have n1 : ¬ c < 0 := by omega
  have n2 : ¬ (281474976710656 : Int) < (info.bytes : Int) * c := by simpa using hb
  have n3 : ¬ l < 0 := by omega
  have n4 : ¬ c < l := by omega
  have hrun : (Instr.makeSlice t len' cap').run P w = .ok (.slice (some ⟨w.heap.size, 0, none⟩) l.toNat c.toNat)
      (w.alloc (.cells ((Array.range (c.toNat * info.size)).map fun i => (if c.toNat * info.size = 0 then #[] else z.cells)[i % (if c.toNat * info.size = 0 then #[] else z.cells).size]!) elem)) := by
    by_cases hn : c.toNat * info.size = 0
    · simp [Instr.makeSlice, run_underlying hd, el, ec, run_typeInfo hi, wl, wc, n1, n2, n3, n4, run_sizeOf hi, hn, newRow, map_range_zero]
    · simp [Instr.makeSlice, run_underlying hd, el, ec, run_typeInfo hi, wl, wc, n1, n2, n3, n4, run_sizeOf hi, hn, newRow, run_zeroValue hi hz]
  split at he
  · rename_i hc0
    simp only [Option.some.injEq, Prod.mk.injEq] at he
    obtain ⟨rfl, rfl⟩ := he
    have hl0 : l = 0 := by omega
    subst hc0; subst hl0
    exact ⟨_, _, μ, hrun, alloc_none hr hf _, .empty0 _⟩
  · rename_i hc0
    simp only [Option.some.injEq, Prod.mk.injEq] at he
    obtain ⟨rfl, rfl⟩ := he
    have hn : ¬ c.toNat * info.size = 0 := by
      have := Nat.mul_pos (show 0 < c.toNat by omega) hpos; omega
    simp only [hn, if_false] at hrun
    have hzc := zeroCells_rel hcl c.toNat
    rw [← hzs] at hrun
    have hp := push_row hr hf .rw info.size (zeroCellsL z.cells.toList c.toNat) ((Array.range (c.toNat * z.cells.size)).map fun i => z.cells[i % z.cells.size]!) elem (0, 0)
      (by rw [hzc.length, List.take_length]; exact hzc) (by simp)
    exact ⟨_, _, _, hrun, hp, .slice (i := 0) (upd_same _ _ _) (.inl rfl)⟩
end Go.Proofs.Ytfehhihllenjiaa
/- Operations: slices, append, copy. -/
set_option linter.all false
namespace Go.Proofs.Ytfehhihllenjiaa

def bnd (v : Value) (y : Nat) : Option Nat :=
  match evInt v with
  | some i => if 0 ≤ i ∧ i ≤ (y : Int) then some i.toNat else none
  | none => none
def evBounds0 (len cap : Nat) (lo hi mx : Option Value) : Option (Nat × Nat × Nat) :=
  match (match mx with | some v => bnd v cap | none => some cap) with
  | none => none
  | some m => match (match hi, mx with | some v, _ => bnd v m | none, none => some len | none, some _ => none) with
    | none => none
    | some hh => match (match lo with | some v => bnd v hh | none => some 0) with
      | none => none
      | some l => some (l, hh, m)
def evBounds (len cap : Nat) (lo hi mx : Option Value) : Option (Nat × Nat × Nat) :=
  match evBounds0 len cap lo hi mx with
  | some (l, hh, m) => if l ≤ hh ∧ hh ≤ m then some (l, hh, m) else none
  | none => none
theorem evBounds_of {len cap : Nat} {lo hi mx : Option Value} {l hh m : Nat} (he : evBounds len cap lo hi mx = some (l, hh, m)) : evBounds0 len cap lo hi mx = some (l, hh, m) ∧ l ≤ hh ∧ hh ≤ m := by
  unfold evBounds at he
  split at he
  · rename_i a b c h0
    split at he
    · rename_i hc
      simp only [Option.some.injEq, Prod.mk.injEq] at he
      obtain ⟨rfl, rfl, rfl⟩ := he
      exact ⟨h0, hc⟩
    · simp at he
  · simp at he

inductive ORel (μ : Mu) : Option Value → Option Value → Prop
  | none : ORel μ none none
  | some {v v' : Value} (h : VR μ v v') : ORel μ (some v) (some v')
theorem ORel.of_map {μ : Mu} {f g : Operand → Value} (o : Option Operand) (h : ∀ x, o = Option.some x → VR μ (f x) (g x)) : ORel μ (o.map f) (o.map g) := by
  cases o with
  | none => exact .none
  | some x => exact .some (h x rfl)

theorem bnd_sound {P : Program} {v v' : Value} {y y' n : Nat} {μ : Mu} (he : bnd v y = some n) (hv : VR μ v v') (hy : y ≤ y') (code : BoundsCode) (w : World) :
    (Instr.sliceBound v' y' code).run P w = .ok n w := by
  unfold bnd at he
  split at he
  case h_2 => simp at he
  case h_1 i hi =>
  split at he
  case isFalse => simp at he
  case isTrue h =>
  simp only [Option.some.injEq] at he
  obtain ⟨k, rfl, hk⟩ := evInt_run hi hv (P := P) w
  have : 0 ≤ i ∧ i ≤ (y' : Int) := ⟨h.1, by omega⟩
  simp [Instr.sliceBound, hk, this, he]
theorem bnd_le {v : Value} {y n : Nat} (he : bnd v y = some n) : n ≤ y := by
  unfold bnd at he
  split at he
  case h_2 => simp at he
  case h_1 i hi =>
  split at he
  case isFalse => simp at he
  case isTrue h => simp only [Option.some.injEq] at he; omega

theorem bounds_sound {P : Program} {len cap C : Nat} {lo hi mx lo' hi' mx' : Option Value} {l hh m : Nat} {μ : Mu} (he : evBounds len cap lo hi mx = some (l, hh, m)) (h1 : ORel μ lo lo') (h2 : ORel μ hi hi') (h3 : ORel μ mx mx') (hC : cap ≤ C) (b : Bool) (w : World) :
    (Instr.sliceBounds b len C lo' hi' mx').run P w = .ok (l, hh, if mx.isSome then m else C) w ∧ (mx.isSome = false → m = cap) := by
  replace he := (evBounds_of he).1
  unfold evBounds0 at he
  cases h3 with
  | none =>
    simp only at he
    cases h2 with
    | none =>
      simp only at he
      cases h1 with
      | none => simp only [Option.some.injEq, Prod.mk.injEq] at he; obtain ⟨rfl, rfl, rfl⟩ := he; simp [Instr.sliceBounds]
      | some hv =>
        split at he
        · simp at he
        · rename_i l1 hl
          simp only [Option.some.injEq, Prod.mk.injEq] at he
          obtain ⟨rfl, rfl, rfl⟩ := he
          simp [Instr.sliceBounds, bnd_sound (P := P) hl hv (Nat.le_refl _)]
    | some hv2 =>
      simp only at he
      split at he
      · simp at he
      · rename_i h0 hh0
        cases h1 with
        | none => simp only [Option.some.injEq, Prod.mk.injEq] at he; obtain ⟨rfl, rfl, rfl⟩ := he; simp [Instr.sliceBounds, bnd_sound (P := P) hh0 hv2 hC]
        | some hv =>
          split at he
          · simp at he
          · rename_i l1 hl
            simp only [Option.some.injEq, Prod.mk.injEq] at he
            obtain ⟨rfl, rfl, rfl⟩ := he
            simp [Instr.sliceBounds, bnd_sound (P := P) hl hv (Nat.le_refl _), bnd_sound (P := P) hh0 hv2 hC]
  | some hv3 =>
    simp only at he
    split at he
    · simp at he
    · rename_i m0 hm0
      cases h2 with
      | none => simp at he
      | some hv2 =>
        simp only at he
        split at he
        · simp at he
        · rename_i h0 hh0
          cases h1 with
          | none => simp only [Option.some.injEq, Prod.mk.injEq] at he; obtain ⟨rfl, rfl, rfl⟩ := he; simp [Instr.sliceBounds, bnd_sound (P := P) hm0 hv3 hC, bnd_sound (P := P) hh0 hv2 (Nat.le_refl _)]
          | some hv =>
            split at he
            · simp at he
            · rename_i l1 hl
              simp only [Option.some.injEq, Prod.mk.injEq] at he
              obtain ⟨rfl, rfl, rfl⟩ := he
              simp [Instr.sliceBounds, bnd_sound (P := P) hm0 hv3 hC, bnd_sound (P := P) hl hv (Nat.le_refl _), bnd_sound (P := P) hh0 hv2 (Nat.le_refl _)]

def evSliceArr (n size b i : Nat) (lo hi mx : Option Value) : Option Value :=
  match evBounds n n lo hi mx with
  | some (l, hh, m) => if m = l then some emptyS else some (.slice (some ⟨b, i + l * size, none⟩) (hh - l) (m - l))
  | none => none
def evSlice (P : Program) (t : TypeId) (x : Value) (lo hi mx : Option Value) (h : Heap) : Option Value :=
  match P.underlying t, x with
  | some (.array n elem), .pointer (some ⟨b, i, none⟩) => match P.info? elem with
    | some info => evSliceArr n info.size b i lo hi mx
    | none => none
  | some (.pointer arr), .pointer (some ⟨b, i, none⟩) => match P.underlying arr with
    | some (.array n elem) => match P.info? elem with
      | some info => evSliceArr n info.size b i lo hi mx
      | none => none
    | _ => none
  | some .string, .string s => match mx with
    | some _ => none
    | none => match evBounds s.size s.size lo hi none with
      | some (l, hh, _) => some (.string (s.extract l hh))
      | none => none
  | some (.slice elem), .slice none 0 0 => match P.info? elem with
    | some _ => match evBounds 0 0 lo hi mx with
      | some _ => some (.slice none 0 0)
      | none => none
    | none => none
  | some (.slice elem), .slice (some ⟨b, i, none⟩) n c => match P.info? elem, h.obj b with
    | some info, some (.row k es cs) => match evBounds n c lo hi mx with
      | some (l, hh, m) =>
        if m = l then (if mx.isSome then some emptyS else some anyS)
        else if k = .grow → es = info.size then some (.slice (some ⟨b, i + l * info.size, none⟩) (hh - l) (m - l)) else none
      | none => none
    | _, _ => none
  | some (.slice elem), .slice (some ⟨0, 0, some 0⟩) 0 0 => match P.info? elem with
    | some _ => match evBounds 0 0 lo hi mx with
      | some _ => some emptyS
      | none => none
    | none => none
  | some (.slice elem), .slice (some ⟨0, 0, some 1⟩) 0 0 => match P.info? elem with
    | some _ => match evBounds 0 0 lo hi mx with
      | some _ => some (if mx.isSome then emptyS else anyS)
      | none => none
    | none => none
  | _, _ => none

theorem evBounds_zero {lo hi mx : Option Value} {l hh m : Nat} (he : evBounds 0 0 lo hi mx = some (l, hh, m)) : l = 0 ∧ hh = 0 ∧ m = 0 := by
  replace he := (evBounds_of he).1
  unfold evBounds0 at he
  split at he
  · simp at he
  · rename_i m0 hm0
    have hm : m0 = 0 := by
      cases mx with
      | none => simpa using hm0.symm
      | some v => have := bnd_le hm0; omega
    split at he
    · simp at he
    · rename_i h0 hh0
      have hh1 : h0 = 0 := by
        cases hi with
        | none => cases mx with
          | none => simpa using hh0.symm
          | some v => simp at hh0
        | some v => have := bnd_le hh0; omega
      split at he
      · simp at he
      · rename_i l0 hl0
        have hl : l0 = 0 := by
          cases lo with
          | none => simpa using hl0.symm
          | some v => have := bnd_le hl0; omega
        simp only [Option.some.injEq, Prod.mk.injEq] at he
        omega

theorem evSliceArr_sound {P : Program} {n size b i : Nat} {lo hi mx lo' hi' mx' : Option Value} {r : Value} {μ : Mu} {m : Loc} (he : evSliceArr n size b i lo hi mx = some r) (hb : μ b = some m)
    (h1 : ORel μ lo lo') (h2 : ORel μ hi hi') (h3 : ORel μ mx mx') (w : World) :
    ∃ l hh mm, (Instr.sliceBounds false n n lo' hi' mx').run P w = .ok (l, hh, mm) w ∧
      VR μ r (.slice (some (if mm = l then ⟨m.B, m.o + i, none⟩ else ⟨m.B, m.o + i + l * size, none⟩)) (hh - l) (mm - l)) := by
  unfold evSliceArr at he
  split at he
  case h_2 => simp at he
  case h_1 l hh mm hbd =>
  obtain ⟨hrun, hcap⟩ := bounds_sound (P := P) hbd h1 h2 h3 (Nat.le_refl n) false w
  have e : (if mx.isSome then mm else n) = mm := by
    cases hmx : mx.isSome with
    | true => rfl
    | false => simpa using (hcap hmx).symm
  rw [e] at hrun
  refine ⟨l, hh, mm, hrun, ?_⟩
  split at he
  · rename_i hml
    simp only [Option.some.injEq] at he
    subst he
    have hle := (evBounds_of hbd).2
    have hhl : hh - l = 0 := by omega
    simp only [hml, if_true, hhl, Nat.sub_self]
    exact .empty0 _
  · rename_i hml
    simp only [Option.some.injEq] at he
    subst he
    simp only [hml, if_false]
    have := VR.slice (μ := μ) (n := hh - l) (c := mm - l) (C := mm - l) (i := i + l * size) hb (.inl rfl)
    simpa [Nat.add_assoc] using this

theorem evSlice_sound {P : Program} {t : TypeId} {x x' : Value} {lo hi mx lo' hi' mx' : Option Value} {r : Value} {h : Heap} {μ : Mu} {w : World} (he : evSlice P t x lo hi mx h = some r) (hr : Rel μ h w) (hx : VR μ x x')
    (h1 : ORel μ lo lo') (h2 : ORel μ hi hi') (h3 : ORel μ mx mx') : ∃ r', (Instr.sliceAt t x' lo' hi' mx').run P w = .ok r' w ∧ VR μ r r' := by
  unfold evSlice at he
  split at he
  · rename_i n elem b i hd
    cases hx with
    | ptr hb =>
    rename_i m
    split at he
    case h_2 => simp at he
    case h_1 info hin =>
    obtain ⟨l, hh, mm, hrun, hv⟩ := evSliceArr_sound (P := P) he hb h1 h2 h3 w
    exact ⟨_, by simp only [Instr.sliceAt, Sem.run_bind, run_underlying hd, Result.andThen_ok, Instr.sureAddr, Sem.run_pure, hrun, run_sizeOf hin, addr_add], hv⟩
  · rename_i arr b i hd
    cases hx with
    | ptr hb =>
    rename_i m
    split at he
    case h_2 => simp at he
    case h_1 n elem hd2 =>
    split at he
    case h_2 => simp at he
    case h_1 info hin =>
    obtain ⟨l, hh, mm, hrun, hv⟩ := evSliceArr_sound (P := P) he hb h1 h2 h3 w
    exact ⟨_, by simp only [Instr.sliceAt, Instr.slice, Sem.run_bind, run_underlying hd, run_underlying hd2, Result.andThen_ok, asAddr, Sem.run_pure, hrun, run_sizeOf hin, addr_add], hv⟩
  · rename_i s hd
    cases hx
    split at he
    · simp at he
    · cases h3
      split at he
      · rename_i l hh m hbd
        simp only [Option.some.injEq] at he
        subst he
        obtain ⟨hrun, hcap⟩ := bounds_sound (P := P) hbd h1 h2 .none (Nat.le_refl _) false w
        exact ⟨_, by simp only [Instr.sliceAt, Instr.slice, Sem.run_bind, run_underlying hd, Result.andThen_ok, Option.isSome_none, Bool.false_eq_true, if_false, Sem.run_pure, hrun], .string _⟩
      · simp at he
  · rename_i elem hd
    cases hx
    split at he
    case h_2 => simp at he
    case h_1 info hin =>
    split at he
    case h_2 => simp at he
    case h_1 r0 hbd =>
    obtain ⟨l, hh, m⟩ := r0
    simp only [Option.some.injEq] at he
    subst he
    obtain ⟨rfl, rfl, rfl⟩ := evBounds_zero hbd
    obtain ⟨hrun, hcap⟩ := bounds_sound (P := P) hbd h1 h2 h3 (Nat.le_refl _) true w
    have e : (if mx.isSome then 0 else 0) = 0 := by split <;> rfl
    rw [e] at hrun
    exact ⟨.slice none 0 0, by simp only [Instr.sliceAt, Instr.slice, Sem.run_bind, run_underlying hd, Result.andThen_ok, hrun, run_sizeOf hin, Sem.run_pure, Nat.sub_self, if_true], .nilSlice⟩
  · rename_i elem b i n c hd
    cases hx with
    | slice hb hc =>
    rename_i C m0
    split at he
    case h_2 => simp at he
    case h_1 info k es cs hin hob =>
    split at he
    case h_2 => simp at he
    case h_1 l hh m hbd =>
    have hle := (evBounds_of hbd).2
    have hcC : c ≤ C := by rcases hc with rfl | hc <;> omega
    obtain ⟨hrun, hcap⟩ := bounds_sound (P := P) hbd h1 h2 h3 hcC true w
    have hrow := hr.obj b m0 _ hb hob
    obtain ⟨hmk, hme, hlen, hroom, arr, el, fr, hblk, hsz, hvl, hfz⟩ := id hrow
    refine ⟨.slice (some (if (if mx.isSome then m else C) = l then ⟨m0.B, m0.o + i, none⟩ else ⟨m0.B, m0.o + i + l * info.size, none⟩)) (hh - l) ((if mx.isSome then m else C) - l), ?_, ?_⟩
    · simp only [Instr.sliceAt, Instr.slice, Sem.run_bind, run_underlying hd, Result.andThen_ok, hrun, run_sizeOf hin, Sem.run_pure, Option.map_some, addr_add]
      (repeat' split) <;> rfl
    · cases hmx : mx.isSome with
      | true =>
        simp only [if_true]
        split at he
        · rename_i hml
          simp only [hmx, if_true, Option.some.injEq] at he
          subst he
          have e1 : hh - l = 0 := by omega
          simp only [hml, if_true, Nat.sub_self, e1]
          exact .empty0 _
        · rename_i hml
          split at he
          case isFalse => simp at he
          case isTrue hk =>
          simp only [Option.some.injEq] at he
          subst he
          simp only [hml, if_false]
          have := VR.slice (μ := μ) (n := hh - l) (c := m - l) (C := m - l) (i := i + l * info.size) hb (.inl rfl)
          simpa [Nat.add_assoc] using this
      | false =>
        have hmc := hcap hmx
        subst hmc
        simp only [Bool.false_eq_true, if_false]
        split at he
        · rename_i hml
          simp only [hmx, Bool.false_eq_true, if_false, Option.some.injEq] at he
          subst he
          have e1 : hh - l = 0 := by omega
          rw [e1]
          exact .emptyAny _ _
        · rename_i hml
          split at he
          case isFalse => simp at he
          case isTrue hk =>
          simp only [Option.some.injEq] at he
          subst he
          have hCl : ¬ C = l := by omega
          simp only [hCl, if_false]
          have hco : CapOk m0 (i + l * info.size) (m - l) (C - l) := by
            rcases hc with rfl | ⟨hg, hcC', hend, hroomC⟩
            · exact .inl rfl
            · have hes : m0.es = info.size := by rw [hme]; exact hk (by rw [← hmk]; exact hg)
              refine .inr ⟨hg, by omega, ?_, ?_⟩
              · rw [hes] at hend ⊢
                have : (m - l) * info.size = m * info.size - l * info.size := Nat.sub_mul _ _ _
                have : l * info.size ≤ m * info.size := Nat.mul_le_mul_right _ (by omega)
                omega
              · rw [hes] at hroomC ⊢
                have : (C - l) * info.size = C * info.size - l * info.size := Nat.sub_mul _ _ _
                have : l * info.size ≤ C * info.size := Nat.mul_le_mul_right _ (by omega)
                omega
          have := VR.slice (μ := μ) (n := hh - l) (c := m - l) (C := C - l) (i := i + l * info.size) hb hco
          simpa [Nat.add_assoc] using this
  · rename_i elem hd
    cases hx with
    | empty0 a' =>
    split at he
    case h_2 => simp at he
    case h_1 info hin =>
    split at he
    case h_2 => simp at he
    case h_1 r0 hbd =>
    obtain ⟨l, hh, m⟩ := r0
    simp only [Option.some.injEq] at he
    subst he
    obtain ⟨rfl, rfl, rfl⟩ := evBounds_zero hbd
    obtain ⟨hrun, hcap⟩ := bounds_sound (P := P) hbd h1 h2 h3 (Nat.le_refl _) true w
    have e : (if mx.isSome then 0 else 0) = 0 := by split <;> rfl
    rw [e] at hrun
    exact ⟨.slice (some a') 0 0, by simp only [Instr.sliceAt, Instr.slice, Sem.run_bind, run_underlying hd, Result.andThen_ok, hrun, run_sizeOf hin, Sem.run_pure, Nat.sub_self, if_true], .empty0 _⟩
  · rename_i elem hd
    cases hx with
    | emptyAny a' C =>
    split at he
    case h_2 => simp at he
    case h_1 info hin =>
    split at he
    case h_2 => simp at he
    case h_1 r0 hbd =>
    obtain ⟨l, hh, m⟩ := r0
    simp only [Option.some.injEq] at he
    subst he
    obtain ⟨rfl, rfl, rfl⟩ := evBounds_zero hbd
    obtain ⟨hrun, hcap⟩ := bounds_sound (P := P) hbd h1 h2 h3 (Nat.zero_le C) true w
    refine ⟨.slice (some a') 0 ((if mx.isSome then 0 else C) - 0), ?_, ?_⟩
    · simp only [Instr.sliceAt, Instr.slice, Sem.run_bind, run_underlying hd, Result.andThen_ok, hrun, run_sizeOf hin, Sem.run_pure, Nat.sub_self, Nat.zero_mul, Option.map_some, Nat.sub_zero]
      split
      · rfl
      · simp [Addr.add]
    · cases hmx : mx.isSome with
      | true => simp only [if_true]; exact .empty0 _
      | false => simp only [Bool.false_eq_true, if_false]; exact .emptyAny _ _
  · simp at he
end Go.Proofs.Ytfehhihllenjiaa
/- Operations: append, copy. -/
set_option linter.all false
namespace Go.Proofs.Ytfehhihllenjiaa

def evLen : Value → Option Nat
  | .slice _ n _ => some n
  | .string s => some s.size
  | _ => none
theorem evLen_sound {P : Program} {x x' : Value} {n : Nat} {μ : Mu} (he : evLen x = some n) (hx : VR μ x x') (w : World) : (Builtin.lenOf x').run P w = .ok n w := by
  unfold evLen at he
  split at he
  · simp only [Option.some.injEq] at he; subst he; cases hx <;> rfl
  · simp only [Option.some.injEq] at he; subst he; cases hx; rfl
  · simp at he

def evElems (size n : Nat) (x : Value) (h : Heap) : Option (List Value) :=
  match x with
  | .slice none 0 0 => some []
  | .slice (some ⟨_, _, some _⟩) 0 0 => if n = 0 then some [] else none
  | .slice (some ⟨b, i, none⟩) _ _ => match h.obj b with
    | some (.row _ _ cs) => if i + n * size ≤ cs.length then some ((cs.drop i).take (n * size)) else none
    | _ => none
  | .string s => some ((s.data.toList.take n).map fun b => .int .u8 b.toNat)
  | _ => none
theorem VRL.ints {μ : Mu} : ∀ (l : List Int), VRL μ (l.map fun n => .int .u8 n) (l.map fun n => .int .u8 n)
  | [] => .nil
  | n :: l => .cons (.int _ _) (VRL.ints l)
theorem evElems_sound {P : Program} {size n : Nat} {x x' : Value} {h : Heap} {l : List Value} {μ : Mu} {w : World} (he : evElems size n x h = some l) (hr : Rel μ h w) (hx : VR μ x x') :
    ∃ a, (∀ w' : World, w'.heap = w.heap → (Builtin.firstCells size n x').run P w' = .ok a w') ∧ VRL μ l a.toList := by
  unfold evElems at he
  split at he
  · cases hx
    simp only [Option.some.injEq] at he; subst he
    exact ⟨#[], fun _ _ => rfl, .nil⟩
  · split at he
    case isFalse => simp at he
    case isTrue hn =>
    subst hn
    simp only [Option.some.injEq] at he; subst he
    cases hx with
    | empty0 a' => exact ⟨#[], fun _ _ => by simp [Builtin.firstCells, loadCells, loadCellsFrom], .nil⟩
    | emptyAny a' C => exact ⟨#[], fun _ _ => by simp [Builtin.firstCells, loadCells, loadCellsFrom], .nil⟩
  · rename_i b i n0 c0
    cases hx with
    | slice hb hc =>
    rename_i C m
    split at he
    case h_2 => simp at he
    case h_1 k es cs hob =>
    split at he
    case isFalse => simp at he
    case isTrue hle =>
    simp only [Option.some.injEq] at he; subst he
    obtain ⟨hmk, hme, hlen, hroom, arr, el, fr, hblk, hsz, hvl, hfz⟩ := hr.obj b m _ hb hob
    refine ⟨_, fun w' hw' => by simp only [Builtin.firstCells]; exact run_loadCells_row (by rw [hw']; exact hblk) (by omega), ?_⟩
    have := (hvl.drop i).take (n * size)
    simp only [List.drop_take, List.drop_drop, List.take_take] at this
    rwa [Nat.min_eq_left (by omega)] at this
  · cases hx
    simp only [Option.some.injEq] at he; subst he
    rename_i s
    refine ⟨(s.extract 0 n).data.map fun b => .int .u8 b.toNat, fun _ _ => rfl, ?_⟩
    have e : (s.extract 0 n).data.toList = s.data.toList.take n := by
      simp [ByteArray.data_extract]
    rw [Array.toList_map, e]
    have := VRL.ints (μ := μ) ((s.data.toList.take n).map fun b => (b.toNat : Int))
    rw [List.map_map] at this
    exact this
  · simp at he

theorem growBy_le (need : Nat) : ∀ (r c : Nat), c ≤ need + (need + 768) / 4 → Builtin.growBy need r c ≤ need + (need + 768) / 4
  | 0, c, h => h
  | r + 1, c, h => by
    simp only [Builtin.growBy]
    split
    · exact h
    · exact growBy_le need r _ (by omega)
theorem nextslicecap_le {need old : Nat} (h : old ≤ need) : Builtin.nextslicecap need old ≤ 2 * need + 512 := by
  unfold Builtin.nextslicecap
  split
  · omega
  · split
    · omega
    · have := growBy_le need 4 old (by omega); omega

/-- What append takes: the number of new elements, their cells. -/
def appKind : TypeDesc → Option Bool
  | .int _ => some true
  | .slice _ | .string => some false
  | _ => none
def evNew (P : Program) (info : TypeInfo) (z : Value) (xt : TypeId) (x : Value) (h : Heap) : Option (Nat × List Value) :=
  match (P.underlying xt).bind appKind with
  | none => none
  | some true => match evInt x with
    | some l => if 0 ≤ l ∧ l ≤ 2 ^ 32 then some (l.toNat, zeroCellsL z.cells.toList l.toNat) else none
    | none => none
  | some false => match evLen x with
    | some m => match evElems info.size m x h with
      | some xs => if xs.length = m * info.size then some (m, xs) else none
      | none => none
    | none => none

def exactS (k : Kind) (i c es : Nat) (cs : List Value) : Bool := k != .grow || i + c * es != cs.length
def evAppend (P : Program) (st xt : TypeId) (s x : Value) (h : Heap) : Option (Value × Heap) :=
  match P.underlying st with
  | some (.slice elem) => match P.info? elem with
    | some info => match zeroC info with
      | some z => match evNew P info z xt x h with
        | some (m, xs) =>
          if z.cells.size = info.size ∧ 0 < info.size ∧ info.bytes ≤ 2 ^ 12 ∧ xs.all (fun v => v.oneCell') = true then
            match s with
            | .slice none 0 0 =>
              if m = 0 then some (s, h)
              else if m ≤ 2 ^ 32 then some (.slice (some ⟨h.nx, 0, none⟩) m m, newRowH h .grow info.size xs) else none
            | .slice (some ⟨0, 0, some 0⟩) 0 0 =>
              if m = 0 then some (s, h)
              else if m ≤ 2 ^ 32 then some (.slice (some ⟨h.nx, 0, none⟩) m m, newRowH h .grow info.size xs) else none
            | .slice (some ⟨b, i, none⟩) n c => match h.obj b with
              | some (.row k es cs) =>
                if n + m ≤ c then
                  if m = 0 then some (s, h)
                  else if k ≠ .ro ∧ i + (n + m) * info.size ≤ cs.length then
                    some (.slice (some ⟨b, i, none⟩) (n + m) c, h.put b (some (.row k es (setAt cs (i + n * info.size) xs))))
                  else none
                else if n + m ≤ 2 ^ 32 ∧ n ≤ c ∧ i + n * info.size ≤ cs.length then
                  if exactS k i c es cs = true then
                    some (.slice (some ⟨h.nx, 0, none⟩) (n + m) (n + m), newRowH h .grow info.size ((cs.drop i).take (n * info.size) ++ xs))
                  else if n = c ∧ es = info.size then
                    some (.slice (some ⟨h.nx, 0, none⟩) (n + m) (n + m), newRowH (h.put b none) .grow info.size ((cs.drop i).take (n * info.size) ++ xs))
                  else none
                else none
              | _ => none
            | _ => none
          else none
        | none => none
      | none => none
    | none => none
  | _ => none

/-- What 'append' appends, run. -/
structure NewRun (P : Program) (info : TypeInfo) (z : Value) (xt : TypeId) (x : Value) (w : World) (m : Nat) (new : Array Value) where
  d : TypeDesc
  hd : P.underlying xt = some d
  kd : (appKind d).isSome = true
  zs : appKind d = some true → ∃ l : Int, (∀ w, (asInt x).run P w = .ok l w) ∧ 0 ≤ l ∧ l ≤ 2 ^ 32 ∧ m = l.toNat ∧ new = Builtin.zeroCells z.cells m
  ot : appKind d = some false → (∀ w, (Builtin.lenOf x).run P w = .ok m w) ∧ ∀ w' : World, w'.heap = w.heap → (Builtin.firstCells info.size m x).run P w' = .ok new w'

set_option maxHeartbeats 4000000 in
theorem run_append_grow {P : Program} {st ty elem xt : TypeId} {info : TypeInfo} {z : Value} {base : Option Addr} {n C m : Nat} {x : Value} {old new : Array Value} {w : World}
    (hd : P.underlying st = some (.slice elem)) (hi : P.info? elem = some info) (hz : info.zero = some z) (hnew : NewRun P info z xt x w m new)
    (hold : ∀ w' : World, w'.heap = w.heap → (Builtin.firstCells info.size n (.slice base n C)).run P w' = .ok old w')
    (hgrow : C < n + m) (hn : n + m ≤ 2 ^ 32) (hb : info.bytes ≤ 2 ^ 12) (hpos : 0 < info.size) (hz1 : z.cells.size = info.size) :
    ∃ cap : Nat, n + m ≤ cap ∧
      (Builtin.append_ #[st, xt] ty #[.slice base n C, x]).run P w = .ok (.slice (some ⟨w.heap.size, 0, none⟩) (n + m) cap) (w.drew.alloc (.cells (old ++ new ++ Builtin.zeroCells z.cells (cap - (n + m))) elem)) := by
  obtain ⟨d, hxt, hkd, hzs, hot⟩ := hnew
  have h1 : ¬ (n + m ≤ C) := by omega
  have hcap := nextslicecap_le (need := n + m) (old := C) (by omega)
  have h2 : ¬ 2 ^ 48 < Builtin.nextslicecap (n + m) C * info.bytes := by
    have : Builtin.nextslicecap (n + m) C * info.bytes ≤ (2 * (2 ^ 32) + 512) * 2 ^ 12 := Nat.mul_le_mul (by omega) hb
    omega
  have h2' : ¬ 281474976710656 < Builtin.nextslicecap (n + m) C * info.bytes := by simpa using h2
  have h3 : ¬ IntKind.i64.max < (n : Int) + (m : Int) := by
    have : IntKind.i64.max = 9223372036854775807 := by decide
    omega
  refine ⟨n + m + (w.tape w.drawn (.appendCap (n + m) C elem)) % (2 ^ 63 - (n + m)), by omega, ?_⟩
  have hdh : w.drew.heap = w.heap := rfl
  cases d with
  | int k =>
    obtain ⟨l, hl, h0, hl2, rfl, rfl⟩ := hzs rfl
    · 
      have wl := wrap_i64 (n := l) h0 (by omega)
      have n1 : ¬ l < 0 := by omega
      have n2 : ¬ (281474976710656 : Int) < l * (info.bytes : Int) := by
        have : l * (info.bytes : Int) ≤ 2 ^ 32 * 2 ^ 12 := Int.mul_le_mul hl2 (by exact_mod_cast hb) (by omega) (by omega)
        omega
      have h3' : ¬ (9223372036854775807 : Int) < (n : Int) + max l 0 := by omega
      clear hzs hot
      by_cases hl0 : l.toNat = 0
      · obtain rfl : l = 0 := by omega
        simp only [Int.toNat_zero, Nat.add_zero] at *
        have h3'' : ¬ (9223372036854775807 : Int) < (n : Int) := by omega
        simp [Builtin.append_, run_underlying hd, run_underlying hxt, run_sizeOf hi, hl, wl, run_typeInfo hi, h1, h2', h3'', Question.forced, Question.cut, hold _ hdh, run_zeroValue hi hz, newRow, Builtin.zeroCells, map_range_zero]
      · have hl1 : ¬ l.toNat * info.size = 0 := by
          have := Nat.mul_pos (Nat.pos_of_ne_zero hl0) hpos; omega
        simp [Builtin.append_, run_underlying hd, run_underlying hxt, run_sizeOf hi, hl, wl, n1, n2, run_typeInfo hi, h1, h2', h3', Question.forced, Question.cut, hold _ hdh, hl1, run_zeroValue hi hz, newRow]
  | slice _ =>
    obtain ⟨hl, hfc⟩ := hot rfl
    clear hzs hot
    have h3'' : ¬ (9223372036854775807 : Int) < (n : Int) + (m : Int) := by omega
    simp [Builtin.append_, run_underlying hd, run_underlying hxt, run_sizeOf hi, hl, run_typeInfo hi, h1, h2', Question.forced, Question.cut, hold _ hdh, hfc _ hdh, h3'', run_zeroValue hi hz, newRow]
  | string =>
    obtain ⟨hl, hfc⟩ := hot rfl
    clear hzs hot
    have h3'' : ¬ (9223372036854775807 : Int) < (n : Int) + (m : Int) := by omega
    simp [Builtin.append_, run_underlying hd, run_underlying hxt, run_sizeOf hi, hl, run_typeInfo hi, h1, h2', Question.forced, Question.cut, hold _ hdh, hfc _ hdh, h3'', run_zeroValue hi hz, newRow]
  | _ => simp [appKind] at hkd

set_option maxHeartbeats 1000000 in
theorem run_append_fit0 {P : Program} {st ty elem xt : TypeId} {info : TypeInfo} {z : Value} {base : Option Addr} {n C : Nat} {x : Value} {new : Array Value} {w : World}
    (hd : P.underlying st = some (.slice elem)) (hi : P.info? elem = some info) (hz : info.zero = some z) (hnew : NewRun P info z xt x w 0 new) (hfit : n ≤ C) (hn0 : new = #[]) :
    (Builtin.append_ #[st, xt] ty #[.slice base n C, x]).run P w = .ok (.slice base n C) w := by
  obtain ⟨d, hxt, hkd, hzs, hot⟩ := hnew
  subst hn0
  cases d with
  | int k =>
    obtain ⟨l, hl, h0, hl2, hm, _⟩ := hzs rfl
    obtain rfl : l = 0 := by omega
    have w0 := wrap_i64 (n := 0) (by omega) (by omega)
    cases base <;> simp [Builtin.append_, run_underlying hd, run_underlying hxt, run_sizeOf hi, hl, run_typeInfo hi, w0, hfit, storeCells]
  | slice _ =>
    obtain ⟨hl, hfc⟩ := hot rfl
    cases base <;> simp [Builtin.append_, run_underlying hd, run_underlying hxt, run_sizeOf hi, hl, run_typeInfo hi, hfit, hfc _ rfl, storeCells]
  | string =>
    obtain ⟨hl, hfc⟩ := hot rfl
    cases base <;> simp [Builtin.append_, run_underlying hd, run_underlying hxt, run_sizeOf hi, hl, run_typeInfo hi, hfit, hfc _ rfl, storeCells]
  | _ => simp [appKind] at hkd

set_option maxHeartbeats 1000000 in
theorem run_append_fit {P : Program} {st ty elem xt : TypeId} {info : TypeInfo} {z : Value} {B o n C m : Nat} {x : Value} {new arr : Array Value} {el : TypeId} {fr : Nat × Nat} {w : World}
    (hd : P.underlying st = some (.slice elem)) (hi : P.info? elem = some info) (hz : info.zero = some z) (hnew : NewRun P info z xt x w m new) (hfit : n + m ≤ C)
    (hpos : 0 < info.size) (hz1 : z.cells.size = info.size) (hby : info.bytes ≤ 2 ^ 12)
    (hb : w.heap[B]? = some (.cells arr el fr)) (hsz : o + n * info.size + new.size ≤ arr.size) (h1 : ∀ v ∈ new.toList, v.oneCell' = true) (hfr : ∀ j, j < arr.size → ¬ (fr.1 ≤ j ∧ j < fr.2)) :
    (Builtin.append_ #[st, xt] ty #[.slice (some ⟨B, o, none⟩) n C, x]).run P w = .ok (.slice (some ⟨B, o, none⟩) (n + m) C) (w.setBlk B (.cells (setAt arr.toList (o + n * info.size) new.toList).toArray el fr)) := by
  have hst := run_storeCells_row (P := P) (o := o + n * info.size) new.toList 0 arr w hb (by simp; omega) h1 hfr
  simp only [Nat.add_zero] at hst
  obtain ⟨d, hxt, hkd, hzs, hot⟩ := hnew
  cases d with
  | int k =>
    obtain ⟨l, hl, h0, hl2, hm, hnw⟩ := hzs rfl
    have wl := wrap_i64 (n := l) h0 (by omega)
    by_cases hbig : 281474976710656 < l * (info.bytes : Int)
    · have : l * (info.bytes : Int) ≤ 2 ^ 32 * 2 ^ 12 := Int.mul_le_mul hl2 (by exact_mod_cast hby) (by omega) (by omega)
      omega
    · have n1 : ¬ l < 0 := by omega
      by_cases hl0 : l.toNat * info.size = 0
      · have hl00 : l = 0 := by
          rcases Nat.mul_eq_zero.1 hl0 with h | h <;> omega
        subst hl00
        simp only [Int.toNat_zero] at hm
        subst hm
        have hnn : new = #[] := by rw [hnw]; simp [Builtin.zeroCells, map_range_zero]
        subst hnn
        simp [Builtin.append_, run_underlying hd, run_underlying hxt, run_sizeOf hi, hl, run_typeInfo hi, wl, (show n ≤ C by omega), storeCells, setAt, setBlk_same hb]
      · subst hm
        rw [hnw] at hst ⊢
        simp [Builtin.append_, run_underlying hd, run_underlying hxt, run_sizeOf hi, hl, run_typeInfo hi, wl, n1, hbig, hfit, run_zeroValue hi hz, hl0, addr_add, hst]
  | slice _ =>
    obtain ⟨hl, hfc⟩ := hot rfl
    simp [Builtin.append_, run_underlying hd, run_underlying hxt, run_sizeOf hi, hl, run_typeInfo hi, hfit, hfc _ rfl, addr_add, hst]
  | string =>
    obtain ⟨hl, hfc⟩ := hot rfl
    simp [Builtin.append_, run_underlying hd, run_underlying hxt, run_sizeOf hi, hl, run_typeInfo hi, hfit, hfc _ rfl, addr_add, hst]
  | _ => simp [appKind] at hkd
end Go.Proofs.Ytfehhihllenjiaa
/- append, copy: sound. -/
set_option linter.all false
namespace Go.Proofs.Ytfehhihllenjiaa

theorem evNew_sound {P : Program} {info : TypeInfo} {z : Value} {xt : TypeId} {x x' : Value} {h : Heap} {m : Nat} {xs : List Value} {μ : Mu} {w : World} (he : evNew P info z xt x h = some (m, xs)) (hr : Rel μ h w) (hx : VR μ x x')
    (hz : VRL μ z.cells.toList z.cells.toList) (hzs : z.cells.size = info.size) : ∃ new, Nonempty (NewRun P info z xt x' w m new) ∧ VRL μ xs new.toList ∧ xs.length = m * info.size := by
  unfold evNew at he
  split at he
  · simp at he
  · rename_i hk
    obtain ⟨d, hd, hdk⟩ := Option.bind_eq_some_iff.1 hk
    split at he
    case h_2 => simp at he
    case h_1 l hl =>
    split at he
    case isFalse => simp at he
    case isTrue hb =>
    simp only [Option.some.injEq, Prod.mk.injEq] at he
    obtain ⟨rfl, rfl⟩ := he
    refine ⟨Builtin.zeroCells z.cells l.toNat, ⟨⟨d, hd, by simp [hdk], fun _ => ⟨l, fun w => evInt_asInt hl hx w, hb.1, hb.2, rfl, rfl⟩, fun h0 => by rw [hdk] at h0; cases h0⟩⟩, zeroCells_rel hz _, by rw [zeroCellsL_length]; simp [hzs]⟩
  · rename_i hk
    obtain ⟨d, hd, hdk⟩ := Option.bind_eq_some_iff.1 hk
    split at he
    case h_2 => simp at he
    case h_1 m0 hm0 =>
    split at he
    case h_2 => simp at he
    case h_1 xs0 hxs =>
    split at he
    case isFalse => simp at he
    case isTrue hlen =>
    simp only [Option.some.injEq, Prod.mk.injEq] at he
    obtain ⟨rfl, rfl⟩ := he
    obtain ⟨a, ha, hv⟩ := evElems_sound (P := P) hxs hr hx
    exact ⟨a, ⟨⟨d, hd, by simp [hdk], fun h0 => by (rw [hdk] at h0; cases h0), fun _ => ⟨fun w => evLen_sound hm0 hx w, ha⟩⟩⟩, hv, hlen⟩

theorem setAt_append : ∀ (vs old rest : List Value), vs.length ≤ rest.length → setAt (old ++ rest) old.length vs = old ++ (vs ++ rest.drop vs.length)
  | [], old, rest, _ => by simp
  | v :: vs, old, [], h => by simp at h
  | v :: vs, old, r :: rest, h => by
    simp only [setAt]
    have e : (old ++ r :: rest).set old.length v = (old ++ [v]) ++ rest := by simp
    rw [e]
    have := setAt_append vs (old ++ [v]) rest (by simpa using h)
    simp only [List.length_append, List.length_cons, List.length_nil, Nat.zero_add] at this
    rw [this]
    simp

theorem evAppend_sound {P : Program} (hP : ProgOk P) {st xt ty : TypeId} {s s' x x' r : Value} {h h' : Heap} {μ : Mu} {w : World} (he : evAppend P st xt s x h = some (r, h')) (hr : Rel μ h w) (hf : Fresh μ h)
    (hs : VR μ s s') (hx : VR μ x x') : Sound P (Builtin.append_ #[st, xt] ty #[s', x']) μ h w r h' := by
  unfold evAppend at he
  split at he
  case h_2 => simp at he
  case h_1 elem hd =>
  split at he
  case h_2 => simp at he
  case h_1 info hi =>
  split at he
  case h_2 => simp at he
  case h_1 z hz =>
  obtain ⟨hz, hzq⟩ := zeroC_spec hz
  split at he
  case h_2 => simp at he
  case h_1 m xs hnew =>
  split at he
  case isFalse => simp at he
  case isTrue hcnd =>
  obtain ⟨hzs, hpos, hby, hone⟩ := hcnd
  have hzc := (VR.closed (μ := μ) 8 z hzq).cells
  obtain ⟨new, ⟨hrun⟩, hvn, hxl⟩ := evNew_sound hnew hr hx hzc hzs
  have hnl := hvn.length
  simp only [Array.length_toList] at hnl
  -- a new row
  have grow : ∀ (base : Option Addr) (n C : Nat) (old : Array Value) (olds : List Value), VRL μ olds old.toList → olds.length = n * info.size → (∀ w' : World, w'.heap = w.heap → (Builtin.firstCells info.size n (.slice base n C)).run P w' = .ok old w') →
      C < n + m → n + m ≤ 2 ^ 32 → ∀ (h0 : Heap), Rel μ h0 w.drew → Fresh μ h0 → h0.nx = h.nx → Step μ μ h h0 w w.drew →
      Sound P (Builtin.append_ #[st, xt] ty #[.slice base n C, x']) μ h w (.slice (some ⟨h.nx, 0, none⟩) (n + m) (n + m)) (newRowH h0 .grow info.size (olds ++ xs)) := by
    intro base n C old olds hvo hol hfc hC hnm h0 hr0 hf0 hnx hst
    obtain ⟨cap, hcap, hrn⟩ := run_append_grow (ty := ty) hd hi hz hrun hfc hC hnm hby hpos hzs
    have hsize : (old ++ new ++ Builtin.zeroCells z.cells (cap - (n + m))).size = cap * info.size := by
      have ho := hvo.length
      simp only [Array.length_toList] at ho
      simp only [Array.size_append, Builtin.zeroCells, Array.size_map, Array.size_range, ← ho, ← hnl, hol, hxl, hzs]
      rw [← Nat.add_mul, ← Nat.add_mul]; congr 1; omega
    have hlen : (olds ++ xs).length = (n + m) * info.size := by simp [hol, hxl, Nat.add_mul]
    have hp := push_row hr0 hf0 .grow info.size (olds ++ xs) (old ++ new ++ Builtin.zeroCells z.cells (cap - (n + m))) elem (0, 0) (by
      have hc := hvo.append hvn
      have hl2 := hc.length
      simp only [Array.toList_append]
      rw [hl2, List.take_left']
      · exact hc
      · rfl) (by simp)
    rw [hsize, hlen] at hp
    refine ⟨_, _, _, hrn, hst.trans hf hp, ?_⟩
    have hb : upd μ h0.nx (some (⟨w.drew.heap.size, 0, (n + m) * info.size, cap * info.size, info.size, .grow⟩ : Loc)) h.nx = some ⟨w.drew.heap.size, 0, (n + m) * info.size, cap * info.size, info.size, .grow⟩ := by rw [hnx]; exact upd_same _ _ _
    exact .slice (i := 0) hb (.inr ⟨rfl, hcap, by simp, by simp⟩)
  have sd : Step μ μ h h w w.drew := Step.drew hr hf
  split at he
  · cases hs
    split at he
    · rename_i hm0
      subst hm0
      simp only [Option.some.injEq, Prod.mk.injEq] at he
      obtain ⟨rfl, rfl⟩ := he
      have hn0 : new = #[] := by
        have : new.size = 0 := by omega
        exact Array.eq_empty_of_size_eq_zero this
      exact ⟨_, w, μ, run_append_fit0 hd hi hz hrun (Nat.le_refl _) hn0, .refl hr hf, .nilSlice⟩
    · rename_i hm0
      split at he
      case isFalse => simp at he
      case isTrue hm32 =>
      simp only [Option.some.injEq, Prod.mk.injEq] at he
      obtain ⟨rfl, rfl⟩ := he
      have := grow none 0 0 #[] [] .nil (by simp) (fun _ _ => rfl) (by omega) (by omega) h sd.rel hf rfl sd
      simpa using this
  · cases hs with
    | empty0 a' =>
    split at he
    · rename_i hm0
      subst hm0
      simp only [Option.some.injEq, Prod.mk.injEq] at he
      obtain ⟨rfl, rfl⟩ := he
      have hn0 : new = #[] := by
        have : new.size = 0 := by omega
        exact Array.eq_empty_of_size_eq_zero this
      exact ⟨_, w, μ, run_append_fit0 hd hi hz hrun (Nat.le_refl _) hn0, .refl hr hf, .empty0 _⟩
    · rename_i hm0
      split at he
      case isFalse => simp at he
      case isTrue hm32 =>
      simp only [Option.some.injEq, Prod.mk.injEq] at he
      obtain ⟨rfl, rfl⟩ := he
      have := grow (some a') 0 0 #[] [] .nil (by simp) (fun _ _ => by simp [Builtin.firstCells, loadCells, loadCellsFrom]) (by omega) (by omega) h sd.rel hf rfl sd
      simpa using this
  · rename_i b i n c
    have hs0 := hs
    cases hs with
    | slice hb hc =>
    rename_i C m0
    split at he
    case h_2 => simp at he
    case h_1 k es cs hob =>
    have hrow := hr.obj b m0 _ hb hob
    obtain ⟨hmk, hme, hlen, hroom, arr, el, fr, hblk, hsz, hvl, hfz⟩ := id hrow
    have hcC : c ≤ C := by rcases hc with rfl | hc <;> omega
    split at he
    · rename_i hfit
      split at he
      · rename_i hm0
        subst hm0
        simp only [Option.some.injEq, Prod.mk.injEq] at he
        obtain ⟨rfl, rfl⟩ := he
        have hn0 : new = #[] := by
          have : new.size = 0 := by omega
          exact Array.eq_empty_of_size_eq_zero this
        exact ⟨_, w, μ, run_append_fit0 hd hi hz hrun (by omega) hn0, .refl hr hf, hs0⟩
      · split at he
        case isFalse => simp at he
        case isTrue hk =>
        obtain ⟨hkro, hle⟩ := hk
        simp only [Option.some.injEq, Prod.mk.injEq] at he
        obtain ⟨rfl, rfl⟩ := he
        have hns : new.size = m * info.size := by omega
        have hmul : (n + m) * info.size = n * info.size + m * info.size := Nat.add_mul _ _ _
        have hrf := run_append_fit (ty := ty) (o := m0.o + i) (n := n) (C := C) hd hi hz hrun (by omega) hpos hzs hby hblk (by omega) (hvn.oneCell hone) (hfz hkro).2
        have hw := row_write hrow hblk hvn (i + n * info.size)
        rw [show m0.o + (i + n * info.size) = m0.o + i + n * info.size by omega] at hw
        exact ⟨_, _, μ, hrf, Step.put hr hf hb (by simp [hob]) (by rw [hmk]; exact hkro) (.row k es (setAt cs (i + n * info.size) xs)) _ hw, .slice hb hc⟩
    · rename_i hfit
      split at he
      case isFalse => simp at he
      case isTrue hcc =>
      obtain ⟨hnm, hnc, hle⟩ := hcc
      have hfc : ∃ old, (∀ w' : World, w'.heap = w.heap → (Builtin.firstCells info.size n (.slice (some ⟨m0.B, m0.o + i, none⟩) n C)).run P w' = .ok old w') ∧ VRL μ ((cs.drop i).take (n * info.size)) old.toList := by
        have hev : evElems info.size n (.slice (some ⟨b, i, none⟩) n c) h = some ((cs.drop i).take (n * info.size)) := by
          simp [evElems, hob, hle]
        exact evElems_sound hev hr hs0
      obtain ⟨old, hold, hvo⟩ := hfc
      have hol : ((cs.drop i).take (n * info.size)).length = n * info.size := by simp; omega
      split at he
      · rename_i hex
        simp only [Option.some.injEq, Prod.mk.injEq] at he
        obtain ⟨rfl, rfl⟩ := he
        have hCc : C = c := by
          rcases hc with rfl | ⟨hg, _, hend, _⟩
          · rfl
          · exfalso
            rw [hmk] at hg
            rw [hme, hlen] at hend
            simp [exactS, hg, hend] at hex
        subst hCc
        exact grow (some ⟨m0.B, m0.o + i, none⟩) n C old _ hvo hol hold (by omega) hnm h sd.rel hf rfl sd
      · rename_i hex
        split at he
        case isFalse => simp at he
        case isTrue hnes =>
        obtain ⟨hn, hes⟩ := hnes
        subst hn
        simp only [Option.some.injEq, Prod.mk.injEq] at he
        obtain ⟨rfl, rfl⟩ := he
        have hkg : k = .grow ∧ i + n * es = cs.length := by
          simpa [exactS] using hex
        by_cases hin : n + m ≤ C
        · -- in place
          have hC : i + C * es ≤ m0.room := by
            rcases hc with rfl | ⟨_, _, _, hrm⟩
            · omega
            · rw [hme] at hrm; exact hrm
          have hns : new.size = m * info.size := by omega
          have hmul : (n + m) * info.size = n * info.size + m * info.size := Nat.add_mul _ _ _
          have hCm : (n + m) * info.size ≤ C * info.size := Nat.mul_le_mul_right _ hin
          rw [hes] at hC
          have hkro : k ≠ .ro := by rw [hkg.1]; simp
          have hrf := run_append_fit (ty := ty) (o := m0.o + i) (n := n) (C := C) hd hi hz hrun hin hpos hzs hby hblk (by omega) (hvn.oneCell hone) (hfz hkro).2
          let m' : Loc := ⟨m0.B, m0.o + i, (n + m) * info.size, m0.room - i, info.size, .grow⟩
          have hlt := hf.lt hb
          have hx' : Ext μ (upd μ h.nx (some m')) := fun b' m'' hb' => by
            have := hf.lt hb'
            rw [upd_other _ _ (by omega)]; exact hb'
          refine ⟨_, _, upd μ h.nx (some m'), hrf, ?_, .slice (i := 0) (m := m') (upd_same _ _ _) (.inr ⟨rfl, hin, by simp [m'], by simp [m']; omega⟩)⟩
          refine Step.regrow hr hf hb (by simp [hob]) (by rw [hmk]; exact hkro) m' rfl (.row .grow info.size ((cs.drop i).take (n * info.size) ++ xs)) _ ?_
          refine ⟨rfl, rfl, by simp [m', hol, hxl, hmul], by simp [m']; omega, _, _, _, setBlk_get hblk, by simp [m']; omega, ?_, fun _ => by simpa using hfz hkro⟩
          -- the cells
          have hw : (m0.o + i) + n * info.size + new.toList.length ≤ arr.toList.length := by simp; omega
          have e1 : arr.toList = arr.toList.take (m0.o + i + n * info.size) ++ arr.toList.drop (m0.o + i + n * info.size) := (List.take_append_drop _ _).symm
          have l1 : (arr.toList.take (m0.o + i + n * info.size)).length = m0.o + i + n * info.size := by simp; omega
          have e2 : setAt arr.toList (m0.o + i + n * info.size) new.toList = arr.toList.take (m0.o + i + n * info.size) ++ (new.toList ++ (arr.toList.drop (m0.o + i + n * info.size)).drop new.toList.length) := by
            have := setAt_append new.toList (arr.toList.take (m0.o + i + n * info.size)) (arr.toList.drop (m0.o + i + n * info.size)) (by simp; omega)
            rw [l1, ← e1] at this
            exact this
          have e3 : ((setAt arr.toList (m0.o + i + n * info.size) new.toList).drop (m0.o + i)).take ((n + m) * info.size) = (arr.toList.drop (m0.o + i)).take (n * info.size) ++ new.toList := by
            rw [e2, List.drop_append_of_le_length (by omega), List.drop_take, ← List.append_assoc]
            rw [show m0.o + i + n * info.size - (m0.o + i) = n * info.size by omega]
            apply List.take_left'
            simp; omega
          simp only [m', List.toList_toArray]
          rw [e3]
          refine VRL.append ?_ (hvn.mono hx')
          have := ((hvl.drop i).take (n * info.size)).mono hx'
          simp only [List.drop_take, List.drop_drop, List.take_take] at this
          rwa [Nat.min_eq_left (by omega)] at this
        · -- a new row
          have sk := Step.kill sd.rel hf b
          exact grow (some ⟨m0.B, m0.o + i, none⟩) n C old _ hvo hol hold (by omega) hnm (h.put b none) sk.rel sk.fresh rfl (sd.trans hf sk)
  · simp at he

/-! copy -/
def isSliceV : Value → Bool
  | .slice _ _ _ => true
  | _ => false
def evCopy (P : Program) (dt : TypeId) (dst src : Value) (h : Heap) : Option (Value × Heap) :=
  match P.underlying dt with
  | some (.slice elem) => match P.info? elem with
    | some info => match evLen dst, evLen src, isSliceV dst with
      | some dl, some sl, true => match evElems info.size (Nat.min sl dl) src h with
        | some xs =>
          if xs = [] then some (.int .i64 (Nat.min sl dl : Nat), h)
          else match dst with
            | .slice (some ⟨b, i, none⟩) _ _ => match h.obj b with
              | some (.row k es cs) =>
                if k ≠ .ro ∧ i + xs.length ≤ cs.length ∧ xs.all (fun v => v.oneCell') = true then some (.int .i64 (Nat.min sl dl : Nat), h.put b (some (.row k es (setAt cs i xs)))) else none
              | _ => none
            | _ => none
        | none => none
      | _, _, _ => none
    | none => none
  | _ => none
theorem evCopy_sound {P : Program} {dt st ty : TypeId} {dst dst' src src' r : Value} {h h' : Heap} {μ : Mu} {w : World} (he : evCopy P dt dst src h = some (r, h')) (hr : Rel μ h w) (hf : Fresh μ h)
    (hd : VR μ dst dst') (hs : VR μ src src') : Sound P (Builtin.copy_ #[dt, st] ty #[dst', src']) μ h w r h' := by
  unfold evCopy at he
  split at he
  case h_2 => simp at he
  case h_1 elem hdt =>
  split at he
  case h_2 => simp at he
  case h_1 info hi =>
  split at he
  case h_2 => simp at he
  case h_1 dl sl hdl hsl hsv =>
  split at he
  case h_2 => simp at he
  case h_1 xs hxs =>
  obtain ⟨a, ha, hva⟩ := evElems_sound (P := P) hxs hr hs
  have hsl' := evLen_sound (P := P) hsl hs w
  split at he
  · rename_i hxe
    subst hxe
    simp only [Option.some.injEq, Prod.mk.injEq] at he
    obtain ⟨rfl, rfl⟩ := he
    have ha0 : a.toList = [] := by cases hal : a.toList with | nil => rfl | cons v l => rw [hal] at hva; cases hva
    refine ⟨.int .i64 (Nat.min sl dl : Nat), w, μ, ?_, .refl hr hf, .int _ _⟩
    unfold evLen at hdl
    split at hdl
    · rename_i ad n c
      simp only [Option.some.injEq] at hdl; subst hdl
      have key : ∀ (base : Option Addr) (C : Nat), (Builtin.copy_ #[dt, st] ty #[.slice base n C, src']).run P w = .ok (.int .i64 (Nat.min sl n : Nat)) w := by
        intro base C
        cases base <;> simp [Builtin.copy_, run_underlying hdt, run_sizeOf hi, hsl', ha _ rfl, ha0, storeCells, goInt]
      cases hd <;> exact key _ _
    · simp [isSliceV] at hsv
    · simp at hdl
  · rename_i hxe
    split at he
    case h_2 => simp at he
    case h_1 b i n c =>
    cases hd with
    | slice hb hc =>
    rename_i C m
    split at he
    case h_2 => simp at he
    case h_1 k es cs hob =>
    split at he
    case isFalse => simp at he
    case isTrue hk =>
    simp only [Option.some.injEq, Prod.mk.injEq] at he
    obtain ⟨rfl, rfl⟩ := he
    simp only [evLen, Option.some.injEq] at hdl
    subst hdl
    have hrow := hr.obj b m _ hb hob
    obtain ⟨hmk, hme, hlen, hroom, arr, el, fr, hblk, hsz, hvl, hfz⟩ := id hrow
    have hal := hva.length
    have hst := run_storeCells_row (P := P) (o := m.o + i) a.toList 0 arr w hblk (by simp at hal ⊢; omega) (hva.oneCell hk.2.2) (hfz hk.1).2
    simp only [Nat.add_zero] at hst
    exact ⟨.int .i64 (Nat.min sl n : Nat), _, μ, by simp [Builtin.copy_, run_underlying hdt, run_sizeOf hi, hsl', ha _ rfl, hst, goInt],
      Step.put hr hf hb (by simp [hob]) (by rw [hmk]; exact hk.1) (.row k es (setAt cs i xs)) _ (row_write hrow hblk hva i), .int _ _⟩
end Go.Proofs.Ytfehhihllenjiaa
/- Operations on numbers, strings, equality, conversions. -/
set_option linter.all false
namespace Go.Proofs.Ytfehhihllenjiaa

def evIntOp (op : BinOp) (k : IntKind) (x y : Int) : Option Value :=
  match op with
  | .add => some (.int k (k.wrap (x + y)))
  | .sub => some (.int k (k.wrap (x - y)))
  | .mul => some (.int k (k.wrap (x * y)))
  | .quo => if y = 0 then none else some (.int k (k.wrap (x.tdiv y)))
  | .rem => if y = 0 then none else some (.int k (x.tmod y))
  | .and => some (.int k (k.wrap ((BitVec.ofInt k.bits x &&& BitVec.ofInt k.bits y).toNat)))
  | .or => some (.int k (k.wrap ((BitVec.ofInt k.bits x ||| BitVec.ofInt k.bits y).toNat)))
  | .xor => some (.int k (k.wrap ((BitVec.ofInt k.bits x ^^^ BitVec.ofInt k.bits y).toNat)))
  | .andNot => some (.int k (k.wrap ((BitVec.ofInt k.bits x &&& ~~~BitVec.ofInt k.bits y).toNat)))
  | .eql => some (.bool (x == y))
  | .neq => some (.bool (x != y))
  | .lss => some (.bool (decide (x < y)))
  | .leq => some (.bool (decide (x ≤ y)))
  | .gtr => some (.bool (decide (y < x)))
  | .geq => some (.bool (decide (y ≤ x)))
  | _ => none
def evShift (op : BinOp) (k : IntKind) (x y : Int) : Option Value :=
  if y < 0 then none else
  match op with
  | .shl => some (.int k (k.wrap (x * 2 ^ (min y.toNat k.bits))))
  | .shr => some (.int k (x.fdiv (2 ^ (min y.toNat k.bits))))
  | _ => none
def evStrOp (op : BinOp) (x y : ByteArray) : Option Value :=
  match op with
  | .add => if x.size + y.size ≤ 2 ^ 40 then some (.string (x ++ y)) else none
  | .eql => some (.bool (x.toList == y.toList))
  | .neq => some (.bool !(x.toList == y.toList))
  | _ => none

def andAll {α : Type} (g : α → Option Bool) : List α → Option Bool
  | [] => some true
  | a :: l => match g a with
    | some true => andAll g l
    | some false => some false
    | none => none
/-- Equality, as the model's own: plain values alone. -/
def evEq (P : Program) : Nat → TypeId → Value → Value → Option Bool
  | 0, _, _, _ => none
  | d + 1, t, x, y =>
    match P.underlying t, x, y with
    | some .bool, .bool a, .bool b => some (a == b)
    | some (.int _), .int k a, .int k' b => if k = k' then some (a == b) else none
    | some .string, .string a, .string b => some (a == b)
    | some (.pointer _), .pointer none, .pointer b => some b.isNone
    | some (.pointer _), .pointer (some _), .pointer none => some false
    | some (.interface _), .nilIface, .nilIface => some true
    | some (.interface _), .nilIface, .iface _ _ => some false
    | some (.interface _), .iface _ _, .nilIface => some false
    | some (.slice _), .slice none _ _, .slice b _ _ => some b.isNone
    | some (.slice _), .slice (some _) _ _, .slice none _ _ => some false
    | some (.map _ _), .map none, .map b => some b.isNone
    | some (.map _ _), .map (some _), .map none => some false
    | some (.func _ _ _), .nilFunc, .nilFunc => some true
    | some (.func _ _ _), .nilFunc, .func _ _ _ => some false
    | some (.func _ _ _), .func _ _ _, .nilFunc => some false
    | some (.struct fields), .agg xs, .agg ys =>
      if P.stoodInHeld t then none else
      andAll (fun f : Field => if f.name = "_" then some true else
        match evPart P f.type xs f.offset, evPart P f.type ys f.offset with
        | some a, some b => evEq P d f.type a b
        | _, _ => none) fields.toList
    | some (.array len elem), .agg xs, .agg ys =>
      match P.info? elem with
      | some info => andAll (fun i => match evPart P elem xs (i * info.size), evPart P elem ys (i * info.size) with
        | some a, some b => evEq P d elem a b
        | _, _ => none) (List.range' 0 len)
      | none => none
    | _, _, _ => none

theorem run_forIn_and {α : Type} {P : Program} {w : World} (g : α → Option Bool) (b : α → Sem (ForInStep (Option Bool × Unit))) (hb : ∀ a t, g a = some t → (b a).run P w = .ok (if t then .yield (none, ()) else .done (some false, ())) w) :
    ∀ (l : List α) (r : Bool), andAll g l = some r → (forIn l (none, ()) (fun a _ => b a) : Sem (Option Bool × Unit)).run P w = .ok (if r then (none, ()) else (some false, ())) w
  | [], r, h => by simp [andAll] at h; subst h; rfl
  | a :: l, r, h => by
    simp only [andAll] at h
    split at h
    · rename_i hg
      simp only [List.forIn_cons, Sem.run_bind, hb a _ hg, Result.andThen_ok, if_true]
      exact run_forIn_and g b hb l r h
    · rename_i hg
      simp only [Option.some.injEq] at h
      subst h
      simp [List.forIn_cons, hb a _ hg]
    · simp at h

theorem evEq_sound {P : Program} {μ : Mu} {w : World} : ∀ (d : Nat) (t : TypeId) (x y x' y' : Value) (r : Bool), evEq P d t x y = some r → VR μ x x' → VR μ y y' → (Op.equalIn d t x' y').run P w = .ok r w
  | 0, _, _, _, _, _, _, h, _, _ => by simp [evEq] at h
  | d + 1, t, x, y, x', y', r, h, hx, hy => by
    have ih := fun t x y x' y' r => evEq_sound (P := P) (μ := μ) (w := w) d t x y x' y' r
    unfold evEq at h
    split at h
    · rename_i a b hd; cases hx; cases hy; simp only [Option.some.injEq] at h; subst h; refine (Sem.run_bind P w (underlying t) _).trans ?_; rw [run_underlying hd]; rfl
    · rename_i k0 k a k' b hd
      cases hx; cases hy
      split at h
      · rename_i hk
        subst hk
        simp only [Option.some.injEq] at h; subst h; refine (Sem.run_bind P w (underlying t) _).trans ?_; rw [run_underlying hd]; simp
      · simp at h
    · rename_i a b hd; cases hx; cases hy; simp only [Option.some.injEq] at h; subst h; refine (Sem.run_bind P w (underlying t) _).trans ?_; rw [run_underlying hd]; rfl
    · rename_i e b hd; cases hx; simp only [Option.some.injEq] at h; subst h; cases hy <;> (refine (Sem.run_bind P w (underlying t) _).trans ?_; rw [run_underlying hd]; rfl)
    · rename_i e a hd; cases hy; simp only [Option.some.injEq] at h; subst h; cases hx; refine (Sem.run_bind P w (underlying t) _).trans ?_; rw [run_underlying hd]; rfl
    · rename_i ms hd; cases hx; cases hy; simp only [Option.some.injEq] at h; subst h; refine (Sem.run_bind P w (underlying t) _).trans ?_; rw [run_underlying hd]; rfl
    · rename_i ms _ _ hd; cases hx; cases hy; simp only [Option.some.injEq] at h; subst h; refine (Sem.run_bind P w (underlying t) _).trans ?_; rw [run_underlying hd]; rfl
    · rename_i ms _ _ hd; cases hx; cases hy; simp only [Option.some.injEq] at h; subst h; refine (Sem.run_bind P w (underlying t) _).trans ?_; rw [run_underlying hd]; rfl
    · rename_i e _ _ b _ _ hd; cases hx; simp only [Option.some.injEq] at h; subst h; cases hy <;> (refine (Sem.run_bind P w (underlying t) _).trans ?_; rw [run_underlying hd]; rfl)
    · rename_i e a _ _ _ _ hd; cases hy; simp only [Option.some.injEq] at h; subst h; cases hx <;> (refine (Sem.run_bind P w (underlying t) _).trans ?_; rw [run_underlying hd]; rfl)
    · rename_i k e b hd; cases hx; simp only [Option.some.injEq] at h; subst h; cases hy <;> (refine (Sem.run_bind P w (underlying t) _).trans ?_; rw [run_underlying hd]; rfl)
    · rename_i k e a hd; cases hy; simp only [Option.some.injEq] at h; subst h; cases hx; refine (Sem.run_bind P w (underlying t) _).trans ?_; rw [run_underlying hd]; rfl
    · rename_i hd; cases hx; cases hy; simp only [Option.some.injEq] at h; subst h; refine (Sem.run_bind P w (underlying t) _).trans ?_; rw [run_underlying hd]; rfl
    · rename_i hd; cases hx; simp only [Option.some.injEq] at h; subst h; cases hy <;> (refine (Sem.run_bind P w (underlying t) _).trans ?_; rw [run_underlying hd]; rfl)
    · rename_i hd; cases hy; simp only [Option.some.injEq] at h; subst h; cases hx <;> (refine (Sem.run_bind P w (underlying t) _).trans ?_; rw [run_underlying hd]; rfl)
    · rename_i fields xs ys hd
      cases hx with
      | agg hcx =>
      cases hy with
      | agg hcy =>
      rename_i xs' ys'
      split at h
      · simp at h
      · rename_i hst
        simp only [Bool.not_eq_true] at hst
        have hl := run_forIn_and (P := P) (w := w) _ (fun f : Field =>
            if f.name = "_" then pure (ForInStep.yield (none, ()))
            else do
              let __do_lift ← part f.type xs' f.offset
              let __do_lift_1 ← part f.type ys' f.offset
              let __do_lift ← Op.equalIn d f.type __do_lift __do_lift_1
              if __do_lift = false then pure (ForInStep.done (some false, ())) else pure (ForInStep.yield (none, ()))) (by
          intro f tt hf
          by_cases hn : f.name = "_"
          · simp only [hn, if_true, Option.some.injEq] at hf ⊢
            subst hf; rfl
          · simp only [hn, if_false] at hf ⊢
            split at hf
            case h_2 => simp at hf
            case h_1 a b ha hb =>
            obtain ⟨a', ha', hra⟩ := evPart_sound ha hcx w
            obtain ⟨b', hb', hrb⟩ := evPart_sound hb hcy w
            have := ih _ _ _ _ _ _ hf hra hrb
            simp only [Sem.run_bind, ha', hb', Result.andThen_ok, this]
            cases tt <;> rfl) fields.toList r h
        simp only [Array.forIn_toList] at hl
        refine (Sem.run_bind P w (underlying t) _).trans ?_
        rw [run_underlying hd, Result.andThen_ok]
        refine (Sem.run_bind P w program _).trans ?_
        rw [run_program, Result.andThen_ok]
        simp [hst]
        simp [hl]
        cases r <;> rfl
    · rename_i n elem xs ys hd
      cases hx with
      | agg hcx =>
      cases hy with
      | agg hcy =>
      rename_i xs' ys'
      split at h
      case h_2 => simp at h
      case h_1 info hi =>
      have hl := run_forIn_and (P := P) (w := w) _ (fun i_1 : Nat => do
            let __do_lift ← part elem xs' (i_1 * info.size)
            let __do_lift_1 ← part elem ys' (i_1 * info.size)
            let __do_lift ← Op.equalIn d elem __do_lift __do_lift_1
            if __do_lift = false then pure (ForInStep.done (some false, ())) else pure (ForInStep.yield (none, ()))) (by
          intro i tt hf
          split at hf
          case h_2 => simp at hf
          case h_1 a b ha hb =>
          obtain ⟨a', ha', hra⟩ := evPart_sound ha hcx w
          obtain ⟨b', hb', hrb⟩ := evPart_sound hb hcy w
          have := ih _ _ _ _ _ _ hf hra hrb
          simp only [Sem.run_bind, ha', hb', Result.andThen_ok, this]
          cases tt <;> rfl) (List.range' 0 n) r h
      refine (Sem.run_bind P w (underlying t) _).trans ?_
      rw [run_underlying hd, Result.andThen_ok]
      refine (Sem.run_bind P w (sizeOf elem) _).trans ?_
      rw [run_sizeOf hi, Result.andThen_ok]
      simp [hl]
      cases r <;> rfl
    · simp at h

/-- binOp. 'lit': one of the operands is a constant. -/
def eqOk (P : Program) (t : TypeId) (lit : Bool) (x y : Value) : Bool :=
  match x, y with
  | .nilIface, .nilIface => lit
  | .agg _, .agg _ => !P.eqGuardType P.depth t
  | .float _ _, _ | .complex _ _ _, _ => false
  | _, _ => true
def evBin (P : Program) (op : BinOp) (t : TypeId) (lit : Bool) (x y : Value) : Option Value :=
  match x, y with
  | .int k a, .int k' b =>
    match op with
    | .shl => evShift .shl k a b
    | .shr => evShift .shr k a b
    | op => if k = k' then evIntOp op k a b else none
  | .string a, .string b => evStrOp op a b
  | x, y =>
    match op with
    | .eql => if eqOk P t lit x y = true then (evEq P Op.maxDepth t x y).map .bool else none
    | .neq => if eqOk P t lit x y = true then (evEq P Op.maxDepth t x y).map fun b => .bool (!b) else none
    | _ => none

theorem eqGuard_plain {P : Program} (op : BinOp) (t : TypeId) (X Y : Operand) (x y : Value) (w : World) (h : (∃ k a k' b, x = .int k a ∧ y = .int k' b) ∨ (∃ a b, x = .string a ∧ y = .string b)) :
    (eqGuard op t X Y x y).run P w = .ok () w := by
  rcases h with ⟨k, a, k', b, rfl, rfl⟩ | ⟨a, b, rfl, rfl⟩ <;> (cases op <;> rfl)

theorem evIntOp_run {P : Program} {op : BinOp} {k : IntKind} {x y : Int} {r : Value} (h : evIntOp op k x y = some r) (t : TypeId) (w : World) (hs : op ≠ .shl) (hs' : op ≠ .shr) : (binOp op t (.int k x) (.int k y)).run P w = .ok r w := by
  cases op <;> simp only [evIntOp, Option.some.injEq, reduceCtorEq] at h <;> first
    | (subst h; simp [binOp, Op.intArith, Op.intCmp, Op.intBits]; done)
    | (split at h
       · simp at h
       · rename_i h0
         simp only [Option.some.injEq] at h
         subst h
         simp [binOp, Op.intDiv, h0])
    | exact absurd rfl hs
    | exact absurd rfl hs'

theorem evShift_run {P : Program} {op : BinOp} {k k' : IntKind} {x y : Int} {r : Value} (h : evShift op k x y = some r) (t : TypeId) (w : World) : (binOp op t (.int k x) (.int k' y)).run P w = .ok r w := by
  unfold evShift at h
  split at h
  · simp at h
  · rename_i h0
    cases op <;> simp only [Option.some.injEq, reduceCtorEq] at h
    · subst h; simp [binOp, Op.shift, h0]
    · subst h; simp [binOp, Op.shift, h0]

theorem evStrOp_run {P : Program} {op : BinOp} {x y : ByteArray} {r : Value} (h : evStrOp op x y = some r) (t : TypeId) (w : World) : (binOp op t (.string x) (.string y)).run P w = .ok r w := by
  cases op <;> simp only [evStrOp, Option.some.injEq, reduceCtorEq] at h
  · split at h
    · rename_i hb
      simp only [Option.some.injEq] at h
      subst h
      have hm : ¬ ((x.size + y.size : Nat) : Int) > IntKind.i64.max := by
        have : IntKind.i64.max = 9223372036854775807 := by decide
        omega
      simp only [binOp, Op.stringOp, hm, if_false]
      rfl
    · simp at h
  · subst h; simp [binOp, Op.stringOp]
  · subst h; simp [binOp, Op.stringOp]
end Go.Proofs.Ytfehhihllenjiaa
