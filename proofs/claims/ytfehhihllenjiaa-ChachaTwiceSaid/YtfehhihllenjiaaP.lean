/- Regions that draw: whatever order is drawn, the end is that of the text's order. -/
import Derived.Test.YtfehhihllenjiaaO
set_option linter.all false
namespace Go.Proofs.Ytfehhihllenjiaa

/-- The run in the text's order, step by step. -/
structure Tr (call : Value → Phi) (P : Program) (ops : Array Oper) (e : Env) (h : Heap) (e' : Env) (h' : Heap) where
  E : Nat → Env
  H : Nat → Heap
  V : Nat → Value
  e0 : E 0 = e
  h0 : H 0 = h
  en : E ops.size = e'
  hn : H ops.size = h'
  st : ∀ i o, ops[i]? = some o → E (i + 1) = putE (E i) o.dst (V i) ∧
    ((wantedA ops (E i) o = true ∧ evOp call P (E i) (H i) o = some (.ok (V i), H (i + 1))) ∨ (wantedA ops (E i) o = false ∧ V i = undef ∧ H (i + 1) = H i))

theorem trace_from {call : Value → Phi} {P : Program} {ops : Array Oper} {e' : Env} {h' : Heap} : ∀ (l : List Oper) (k : Nat) (e : Env) (h : Heap), (∀ j, l[j]? = ops[k + j]?) → evOps call P ops l e h = some (.normal, e', h') →
    ∃ (E : Nat → Env) (H : Nat → Heap) (V : Nat → Value), E k = e ∧ H k = h ∧ E (k + l.length) = e' ∧ H (k + l.length) = h' ∧ ∀ i o, k ≤ i → i < k + l.length → ops[i]? = some o → E (i + 1) = putE (E i) o.dst (V i) ∧
    ((wantedA ops (E i) o = true ∧ evOp call P (E i) (H i) o = some (.ok (V i), H (i + 1))) ∨ (wantedA ops (E i) o = false ∧ V i = undef ∧ H (i + 1) = H i))
  | [], k, e, h, _, he => by
    simp only [evOps, Option.some.injEq, Prod.mk.injEq, true_and] at he
    obtain ⟨rfl, rfl⟩ := he
    exact ⟨fun _ => e, fun _ => h, fun _ => undef, rfl, rfl, rfl, rfl, fun i o h1 h2 => by simp at h2; omega⟩
  | o :: l, k, e, h, hl, he => by
    have hk : ops[k]? = some o := by have := hl 0; simpa using this.symm
    have hl' : ∀ j, l[j]? = ops[k + 1 + j]? := fun j => by have := hl (j + 1); simpa [Nat.add_assoc, Nat.add_comm 1 j] using this
    have build : ∀ (v : Value) (h1 : Heap), evOps call P ops l (putE e o.dst v) h1 = some (.normal, e', h') →
        ((wantedA ops e o = true ∧ evOp call P e h o = some (.ok v, h1)) ∨ (wantedA ops e o = false ∧ v = undef ∧ h1 = h)) →
        ∃ (E : Nat → Env) (H : Nat → Heap) (V : Nat → Value), E k = e ∧ H k = h ∧ E (k + (o :: l).length) = e' ∧ H (k + (o :: l).length) = h' ∧ ∀ i o', k ≤ i → i < k + (o :: l).length → ops[i]? = some o' → E (i + 1) = putE (E i) o'.dst (V i) ∧
    ((wantedA ops (E i) o' = true ∧ evOp call P (E i) (H i) o' = some (.ok (V i), H (i + 1))) ∨ (wantedA ops (E i) o' = false ∧ V i = undef ∧ H (i + 1) = H i)) := by
      intro v h1 hrest hstep
      obtain ⟨E, H, V, a1, a2, a3, a4, a5⟩ := trace_from l (k + 1) _ _ hl' hrest
      refine ⟨upd E k e, upd H k h, upd V k v, upd_same _ _ _, upd_same _ _ _, ?_, ?_, ?_⟩
      · rw [upd_other _ _ (by simp), ← a3]; congr 1; simp; omega
      · rw [upd_other _ _ (by simp), ← a4]; congr 1; simp; omega
      · intro i o' h1i h2i ho'
        by_cases hi : i = k
        · subst hi
          rw [hk] at ho'; cases ho'
          rw [upd_same, upd_same, upd_same, upd_other _ _ (by omega), upd_other _ _ (by omega), a1, a2]
          exact ⟨rfl, hstep⟩
        · rw [upd_other _ _ hi, upd_other _ _ hi, upd_other _ _ hi, upd_other _ _ (by omega), upd_other _ _ (by omega)]
          exact a5 i o' (by omega) (by simp at h2i; omega) ho'
    simp only [evOps] at he
    split at he
    · rename_i hw
      split at he
      · rename_i v h1 hop
        exact build v h1 he (.inl ⟨hw, hop⟩)
      · simp at he
      · simp at he
    · rename_i hw
      exact build undef h he (.inr ⟨by simpa using hw, rfl, rfl⟩)

theorem trace_exists {call : Value → Phi} {P : Program} {ops : Array Oper} {e e' : Env} {h h' : Heap} (he : evOps call P ops ops.toList e h = some (.normal, e', h')) : Nonempty (Tr call P ops e h e' h') := by
  obtain ⟨E, H, V, a1, a2, a3, a4, a5⟩ := trace_from ops.toList 0 e h (fun j => by simp) he
  exact ⟨⟨E, H, V, a1, a2, by simpa using a3, by simpa using a4, fun i o ho => a5 i o (Nat.zero_le _) (by
    have := (Array.getElem?_eq_some_iff.1 ho).1; simpa using this) ho⟩⟩

/-! What an operation hangs on. -/
theorem evPlain_congr {P : Program} {e1 e2 : Env} {h : Heap} {o : Oper} (hx : ∀ x ∈ o.op.operands.toList, ev e1 x = ev e2 x) : evPlain P e1 h o = evPlain P e2 h o := by
  have hlist : ∀ l : List Operand, (∀ x ∈ l, x ∈ o.op.operands.toList) → l.map (ev e1) = l.map (ev e2) := fun l hl => List.map_congr_left fun x hxl => hx x (hl x hxl)
  have hparts : ∀ l : List (Nat × Operand), (∀ p ∈ l, p.2 ∈ o.op.operands.toList) → (l.map fun p => (p.1, ev e1 p.2)) = (l.map fun p => (p.1, ev e2 p.2)) := fun l hl => List.map_congr_left fun p hp => by rw [hx p.2 (hl p hp)]
  have hopt : ∀ x : Option Operand, (∀ y, x = some y → y ∈ o.op.operands.toList) → x.map (ev e1) = x.map (ev e2) := fun x hx' => by
    cases x with
    | none => rfl
    | some y => simp [hx y (hx' y rfl)]
  unfold evPlain
  split
  · rw [hx _ (by simp [*, Op.operands])]
  · rw [hx _ (by simp [*, Op.operands])]
  · rename_i c a b hop
    rw [hx c (by simp [hop, Op.operands]), hx a (by simp [hop, Op.operands]), hx b (by simp [hop, Op.operands])]
  · rfl
  · rw [hx _ (by simp [*, Op.operands])]
  · rename_i t parts hop
    rw [hparts _ (fun p hp => by simp [hop, Op.operands]; exact ⟨p.1, by simpa using hp⟩)]
  · rename_i t n parts hop
    rw [hparts _ (fun p hp => by simp [hop, Op.operands]; exact ⟨p.1, by simpa using hp⟩)]
  · rw [hx _ (by simp [*, Op.operands])]
  · rename_i t a x hop
    rw [hx a (by simp [hop, Op.operands]), hx x (by simp [hop, Op.operands])]
  · rw [hx _ (by simp [*, Op.operands])]
  · rename_i op t x y _ hop
    rw [hx x (by simp [hop, Op.operands]), hx y (by simp [hop, Op.operands])]
  · rw [hx _ (by simp [*, Op.operands])]
  · rw [hx _ (by simp [*, Op.operands])]
  · rw [hx _ (by simp [*, Op.operands])]
  · rw [hx _ (by simp [*, Op.operands])]
  · rename_i f first cap hop
    rw [hlist first.toList (fun x hxl => by simp [hop, Op.operands] at hxl ⊢; exact .inl hxl), hlist cap.toList (fun x hxl => by simp [hop, Op.operands] at hxl ⊢; exact .inr hxl)]
  · rename_i t l c hop
    rw [hx l (by simp [hop, Op.operands]), hx c (by simp [hop, Op.operands])]
  · rename_i t x lo hi mx hop
    rw [hx x (by simp [hop, Op.operands]), hopt lo (fun y hy => by simp [hop, Op.operands, hy]), hopt hi (fun y hy => by simp [hop, Op.operands, hy]), hopt mx (fun y hy => by simp [hop, Op.operands, hy])]
  · rw [hx _ (by simp [*, Op.operands])]
  · rw [hx _ (by simp [*, Op.operands])]
  · rename_i t x i hop
    rw [hx x (by simp [hop, Op.operands]), hx i (by simp [hop, Op.operands])]
  · rename_i t x i hop
    rw [hx x (by simp [hop, Op.operands]), hx i (by simp [hop, Op.operands])]
  · rw [hx _ (by simp [*, Op.operands])]
  · rename_i c hop
    rw [hlist c.args.toList (fun x hxl => by simp [hop, Op.operands, Call.operands]; right; simpa using hxl)]
  · rfl

theorem evOp_congr {call : Value → Phi} {P : Program} {e1 e2 : Env} {h : Heap} {o : Oper} (hx : ∀ x ∈ o.op.operands.toList, ev e1 x = ev e2 x) : evOp call P e1 h o = evOp call P e2 h o := by
  unfold evOp
  split
  · rename_i c hop
    split
    · rename_i f hc
      rw [hx f (by simp [hop, Op.operands, Call.operands, hc]), List.map_congr_left (f := ev e1) (g := ev e2) (fun x hxl => hx x (by simp [hop, Op.operands, Call.operands]; right; simpa using hxl))]
    · rw [evPlain_congr hx]
  · rename_i x hop
    rw [hx x (by simp [hop, Op.operands])]
  · rw [evPlain_congr hx]

/-- What an operation of a class leaves alone. -/
theorem push_local {h g : Heap} (hn : g.nx = h.nx) (k : Kind) (es : Nat) (cs : List Value) :
    (∀ b, b < h.nx → (newRowH h k es cs).obj b = h.obj b) ∧ (newRowH g k es cs).nx = (newRowH h k es cs).nx ∧ ∀ b, (newRowH g k es cs).obj b = if h.nx ≤ b ∧ b < (newRowH h k es cs).nx then (newRowH h k es cs).obj b else g.obj b := by
  refine ⟨fun b hb => upd_other _ _ (by omega), by simp [newRowH, Heap.push, hn], fun b => ?_⟩
  by_cases hb : b = h.nx
  · subst hb
    have : h.nx ≤ h.nx ∧ h.nx < (newRowH h k es cs).nx := ⟨Nat.le_refl _, Nat.lt_succ_self _⟩
    rw [if_pos this]
    simp [newRowH, Heap.push, hn]
  · have : ¬ (h.nx ≤ b ∧ b < (newRowH h k es cs).nx) := by
      have e1 : (newRowH h k es cs).nx = h.nx + 1 := rfl
      omega
    rw [if_neg this]
    simp only [newRowH, Heap.push, hn]
    exact upd_other _ _ hb

def Local (call : Value → Phi) (P : Program) (e : Env) (h : Heap) (o : Oper) (r : Rs) (h' : Heap) : Prop :=
  (∀ b, b < h.nx → h'.obj b = h.obj b) ∧ h.nx ≤ h'.nx ∧ ∀ g : Heap, g.nx = h.nx → ∃ g', evOp call P e g o = some (r, g') ∧ g'.nx = h'.nx ∧ ∀ b, g'.obj b = if h.nx ≤ b ∧ b < h'.nx then h'.obj b else g.obj b

theorem Local.same {call : Value → Phi} {P : Program} {e : Env} {h : Heap} {o : Oper} {r : Rs} (hg : ∀ g : Heap, evOp call P e g o = some (r, g)) : Local call P e h o r h :=
  ⟨fun _ _ => rfl, Nat.le_refl _, fun g hn => ⟨g, hg g, hn, fun b => by rw [if_neg (by omega)]⟩⟩

theorem Local.new {call : Value → Phi} {P : Program} {e : Env} {h : Heap} {o : Oper} {r : Rs} {k : Kind} {es : Nat} {cs : List Value} (hg : ∀ g : Heap, g.nx = h.nx → evOp call P e g o = some (r, newRowH g k es cs)) : Local call P e h o r (newRowH h k es cs) :=
  ⟨(push_local rfl k es cs).1, Nat.le_succ _, fun g hn => ⟨_, hg g hn, (push_local hn k es cs).2.1, (push_local hn k es cs).2.2⟩⟩

theorem pure_same {call : Value → Phi} {P : Program} {calm : FuncId → Bool} (hcalm : CalmOk call calm) {e : Env} {h : Heap} {o : Oper} (hc : clsOf calm o.op = .pure) : ∀ g : Heap, evOp call P e g o = (evOp call P e h o).map fun r => (r.1, g) := by
  have pure1 : (∀ g : Heap, evOp call P e g o = (evOp call P e h o).map fun r => (r.1, g)) → ∀ g : Heap, evOp call P e g o = (evOp call P e h o).map fun r => (r.1, g) := fun hF => hF
  unfold clsOf at hc
  split at hc
  · simp at hc
  · simp at hc
  · simp at hc
  · simp at hc
  · simp at hc
  · simp at hc
  · exact pure1 fun g => by simp [evOp, evPlain, *]
  · exact pure1 fun g => by simp [evOp, evPlain, *]
  · rename_i c a b hop
    exact pure1 fun g => by simp only [evOp, evPlain, hop]; cases ev e c <;> rfl
  · exact pure1 fun g => by simp [evOp, evPlain, *, Option.map_map, Function.comp]; rfl
  · exact pure1 fun g => by simp [evOp, evPlain, *, Option.map_map, Function.comp]; rfl
  · exact pure1 fun g => by simp [evOp, evPlain, *, Option.map_map, Function.comp]; rfl
  · exact pure1 fun g => by simp [evOp, evPlain, *, Option.map_map, Function.comp]; rfl
  · exact pure1 fun g => by simp [evOp, evPlain, *, Option.map_map, Function.comp]; rfl
  · rename_i t x hop
    exact pure1 fun g => by
      simp only [evOp, evPlain, hop]
      cases P.underlying t with
      | none => rfl
      | some d => cases d <;> rfl
  · rename_i fn first cap hop
    exact pure1 fun g => by simp only [evOp, evPlain, hop]; cases fn <;> rfl
  · exact pure1 fun g => by simp [evOp, evPlain, *, Option.map_map, Function.comp]; rfl
  · exact pure1 fun g => by simp [evOp, evPlain, *, Option.map_map, Function.comp]; rfl
  · exact pure1 fun g => by simp [evOp, evPlain, *, Option.map_map, Function.comp]; rfl
  · exact pure1 fun g => by simp [evOp, evPlain, *, Option.map_map, Function.comp]; rfl
  · exact pure1 fun g => by simp [evOp, evPlain, *, Option.map_map, Function.comp]; rfl
  · simp at hc
  · rename_i args ts hop
    exact pure1 fun g => by
      simp only [evOp, evPlain, hop, evBuiltin]
      rcases ts.toList with _ | ⟨t, _ | ⟨t2, tl⟩⟩ <;> rcases (args.toList.map (ev e)) with _ | ⟨x, _ | ⟨x2, xl⟩⟩ <;> first | rfl | (simp [Option.map_map, Function.comp]; rfl)
  · rename_i args ts hop
    exact pure1 fun g => by
      simp only [evOp, evPlain, hop, evBuiltin]
      simp [Option.map_map, Function.comp]; rfl
  · rename_i args ts hop
    exact pure1 fun g => by
      simp only [evOp, evPlain, hop, evBuiltin]
      simp [Option.map_map, Function.comp]; rfl
  · rename_i f args ts hop
    by_cases hcm : calm f = true
    · intro g
      simp only [evOp, hop]
      exact hcalm f #[] #[] _ h g hcm
    · simp [hcm] at hc
  · simp at hc


theorem local_of_cls {call : Value → Phi} {P : Program} {calm : FuncId → Bool} (hcalm : CalmOk call calm) {e : Env} {h h' : Heap} {o : Oper} {r : Rs} (hc : clsOf calm o.op = .pure ∨ clsOf calm o.op = .alloc) (he : evOp call P e h o = some (r, h')) : Local call P e h o r h' := by
  rcases hc with hc | hc
  · have hF := pure_same (call := call) (P := P) hcalm (e := e) (h := h) hc
    have h0 := hF h
    rw [he] at h0
    simp only [Option.map_some, Option.some.injEq, Prod.mk.injEq, true_and] at h0
    subst h0
    exact Local.same fun g => by rw [hF g, he]; rfl
  unfold clsOf at hc
  split at hc
  · simp at hc
  · simp at hc
  · -- alloc
    rename_i t hop
    have hE : ∀ g, evOp call P e g o = (evAlloc P t g).map fun r => (.ok r.1, r.2) := fun g => by simp [evOp, evPlain, hop]
    rw [hE] at he
    obtain ⟨⟨v, h2⟩, hv, hq⟩ := Option.map_eq_some_iff.1 he
    simp only [Prod.mk.injEq] at hq
    obtain ⟨rfl, rfl⟩ := hq
    unfold evAlloc at hv
    split at hv
    case h_2 => simp at hv
    case h_1 info hi =>
    split at hv
    case h_2 => simp at hv
    case h_1 z hz =>
    simp only [Option.some.injEq, Prod.mk.injEq] at hv
    obtain ⟨rfl, rfl⟩ := hv
    exact Local.new fun g hn => by rw [hE, evAlloc, hi]; simp [hz, hn]
  · rename_i t x hop
    have hE : ∀ g, evOp call P e g o = (evBox (ev e x) g).map fun r => (.ok r.1, r.2) := fun g => by simp [evOp, evPlain, hop]
    rw [hE] at he
    obtain ⟨⟨v, h2⟩, hv, hq⟩ := Option.map_eq_some_iff.1 he
    simp only [Prod.mk.injEq] at hq
    obtain ⟨rfl, rfl⟩ := hq
    unfold evBox at hv
    split at hv
    case isFalse => simp at hv
    case isTrue hone =>
    simp only [Option.some.injEq, Prod.mk.injEq] at hv
    obtain ⟨rfl, rfl⟩ := hv
    exact Local.new fun g hn => by rw [hE, evBox, if_pos hone]; simp [hn]
  · rename_i t n parts hop
    have hE : ∀ g, evOp call P e g o = (evBuildSlice P t n (parts.toList.map fun p => (p.1, ev e p.2)) g).map fun r => (.ok r.1, r.2) := fun g => by simp [evOp, evPlain, hop]
    rw [hE] at he
    obtain ⟨⟨v, h2⟩, hv, hq⟩ := Option.map_eq_some_iff.1 he
    simp only [Prod.mk.injEq] at hq
    obtain ⟨rfl, rfl⟩ := hq
    unfold evBuildSlice at hv
    split at hv
    case h_2 => simp at hv
    case h_1 elem hd =>
    split at hv
    case h_2 => simp at hv
    case h_1 info hi =>
    split at hv
    case h_2 => simp at hv
    case h_1 z hz =>
    split at hv
    · rename_i hn0
      split at hv
      case isFalse => simp at hv
      case isTrue hp =>
      simp only [Option.some.injEq, Prod.mk.injEq] at hv
      obtain ⟨rfl, rfl⟩ := hv
      exact Local.same fun g => by rw [hE, evBuildSlice, hd]; simp only [hi, hz, hn0, hp, if_true]; rfl
    · rename_i hn0
      split at hv
      case isFalse => simp at hv
      case isTrue hp =>
      split at hv
      case h_2 => simp at hv
      case h_1 l hl =>
      simp only [Option.some.injEq, Prod.mk.injEq] at hv
      obtain ⟨rfl, rfl⟩ := hv
      exact Local.new fun g hn => by rw [hE, evBuildSlice, hd]; simp only [hi, hz, hn0, hp, if_true, if_false, hl, hn]; simp
  · rename_i t l c hop
    have hE : ∀ g, evOp call P e g o = (evMakeSlice P t (ev e l) (ev e c) g).map fun r => (.ok r.1, r.2) := fun g => by simp [evOp, evPlain, hop]
    rw [hE] at he
    obtain ⟨⟨v, h2⟩, hv, hq⟩ := Option.map_eq_some_iff.1 he
    simp only [Prod.mk.injEq] at hq
    obtain ⟨rfl, rfl⟩ := hq
    unfold evMakeSlice at hv
    split at hv
    case h_2 => simp at hv
    case h_1 elem l c hd hl hc =>
    split at hv
    case h_2 => simp at hv
    case h_1 info hi =>
    split at hv
    case h_2 => simp at hv
    case h_1 z hz =>
    split at hv
    case isFalse => simp at hv
    case isTrue hp =>
    split at hv
    · rename_i hn0
      simp only [Option.some.injEq, Prod.mk.injEq] at hv
      obtain ⟨rfl, rfl⟩ := hv
      exact Local.same fun g => by rw [hE, evMakeSlice, hd, hl, hc]; simp only [hi, hz, hn0, if_true]; rw [hn0] at hp; simp only [hp, if_true]; rfl
    · rename_i hn0
      simp only [Option.some.injEq, Prod.mk.injEq] at hv
      obtain ⟨rfl, rfl⟩ := hv
      exact Local.new fun g hn => by rw [hE, evMakeSlice, hd, hl, hc]; simp only [hi, hz, hn0, hp, if_true, if_false, hn]; simp
  all_goals first | (simp at hc; done) | (split at hc <;> simp at hc)

theorem pure_of_cls {call : Value → Phi} {P : Program} {calm : FuncId → Bool} (hcalm : CalmOk call calm) {e : Env} {h h' : Heap} {o : Oper} {r : Rs} (hc : clsOf calm o.op = .pure) (he : evOp call P e h o = some (r, h')) : h' = h := by
  have h0 := pure_same (call := call) (P := P) hcalm (e := e) (h := h) hc h
  rw [he] at h0
  simp only [Option.map_some, Option.some.injEq, Prod.mk.injEq, true_and] at h0
  exact h0

theorem read_of_cls {call : Value → Phi} {P : Program} {calm : FuncId → Bool}
    {e : Env} {h h' : Heap} {o : Oper} {r : Rs} (hc : clsOf calm o.op = .read) (he : evOp call P e h o = some (r, h')) : ∀ b, b < h.nx → h'.obj b = h.obj b := by
  unfold clsOf at hc
  split at hc
  · rename_i t x hop
    simp only [evOp, evPlain, hop, Option.map_map] at he
    obtain ⟨v, hv, hq⟩ := Option.map_eq_some_iff.1 he
    simp only [Function.comp, Prod.mk.injEq] at hq
    obtain ⟨_, rfl⟩ := hq
    exact fun _ _ => rfl
  · rename_i t x lo hi mx hop
    simp only [evOp, evPlain, hop, Option.map_map] at he
    obtain ⟨v, hv, hq⟩ := Option.map_eq_some_iff.1 he
    simp only [Function.comp, Prod.mk.injEq] at hq
    obtain ⟨_, rfl⟩ := hq
    exact fun _ _ => rfl
  all_goals first | (simp at hc; done) | skip
  · rename_i s d x hop
    simp only [evOp, evPlain, hop] at he
    obtain ⟨⟨v, h2⟩, hv, hq⟩ := Option.map_eq_some_iff.1 he
    simp only [Prod.mk.injEq] at hq
    obtain ⟨_, rfl⟩ := hq
    unfold evConvert at hv
    split at hv
    · simp only [Option.some.injEq, Prod.mk.injEq] at hv; obtain ⟨_, rfl⟩ := hv; exact fun _ _ => rfl
    · simp only [Option.some.injEq, Prod.mk.injEq] at hv; obtain ⟨_, rfl⟩ := hv; exact fun _ _ => rfl
    · split at hv
      · split at hv
        · simp only [Option.some.injEq, Prod.mk.injEq] at hv; obtain ⟨_, rfl⟩ := hv; exact fun _ _ => rfl
        · split at hv
          · simp only [Option.some.injEq, Prod.mk.injEq] at hv; obtain ⟨_, rfl⟩ := hv
            exact (push_local rfl _ _ _).1
          · simp at hv
      · simp at hv
    · split at hv
      · split at hv
        · obtain ⟨l, hl, hq⟩ := Option.map_eq_some_iff.1 hv
          simp only [Prod.mk.injEq] at hq; obtain ⟨_, rfl⟩ := hq; exact fun _ _ => rfl
        · simp at hv
      · simp at hv
    · simp at hv
  · split at hc <;> simp at hc

theorem evLoad_congr {P : Program} {t : TypeId} {a : Value} {g h : Heap} (hq : ∀ q ∈ rowsOfV a, g.obj q = h.obj q) : evLoad P t a g = evLoad P t a h := by
  unfold evLoad
  split
  · rename_i b i
    rw [hq b (by simp [rowsOfV])]
  · rfl
theorem evSlice_congr {P : Program} {t : TypeId} {x : Value} {lo hi mx : Option Value} {g h : Heap} (hq : ∀ q ∈ rowsOfV x, g.obj q = h.obj q) : evSlice P t x lo hi mx g = evSlice P t x lo hi mx h := by
  unfold evSlice
  split
  · rfl
  · rfl
  · rfl
  · rfl
  · rename_i elem b i n c hd
    rw [hq b (by simp [rowsOfV])]
  · rfl
  · rfl
  · rfl
theorem evElems_congr {size n : Nat} {x : Value} {g h : Heap} (hq : ∀ q ∈ rowsOfV x, g.obj q = h.obj q) : evElems size n x g = evElems size n x h := by
  unfold evElems
  split
  · rfl
  · rfl
  · rw [hq _ (by simp [rowsOfV])]
  · rfl
  · rfl
/-- What a read hangs on. -/
theorem read_local {call : Value → Phi} {P : Program} {calm : FuncId → Bool} {e : Env} {h h' : Heap} {o : Oper} {r : Rs} (hc : clsOf calm o.op = .read) (he : evOp call P e h o = some (r, h')) (hnx : h'.nx = h.nx)
    {g : Heap} (hq : ∀ q ∈ readRows e o.op, g.obj q = h.obj q) : evOp call P e g o = some (r, g) := by
  unfold clsOf at hc
  split at hc
  · rename_i t x hop
    simp only [readRows, hop] at hq
    simp only [evOp, evPlain, hop, evLoad_congr hq] at he ⊢
    obtain ⟨⟨v, h2⟩, hv, hr⟩ := Option.map_eq_some_iff.1 he
    obtain ⟨v2, hv2, hr2⟩ := Option.map_eq_some_iff.1 hv
    simp only [Prod.mk.injEq] at hr hr2
    obtain ⟨rfl, rfl⟩ := hr
    obtain ⟨rfl, rfl⟩ := hr2
    simp [hv2]
  · rename_i t x lo hi mx hop
    simp only [readRows, hop] at hq
    simp only [evOp, evPlain, hop, evSlice_congr hq] at he ⊢
    obtain ⟨⟨v, h2⟩, hv, hr⟩ := Option.map_eq_some_iff.1 he
    obtain ⟨v2, hv2, hr2⟩ := Option.map_eq_some_iff.1 hv
    simp only [Prod.mk.injEq] at hr hr2
    obtain ⟨rfl, rfl⟩ := hr
    obtain ⟨rfl, rfl⟩ := hr2
    simp [hv2]
  all_goals first | (simp at hc; done) | skip
  · rename_i s d x hop
    simp only [readRows, hop] at hq
    simp only [evOp, evPlain, hop] at he ⊢
    obtain ⟨⟨v, h2⟩, hv, hr⟩ := Option.map_eq_some_iff.1 he
    simp only [Prod.mk.injEq] at hr
    obtain ⟨rfl, rfl⟩ := hr
    suffices hs : evConvert P s d (ev e x) g = some (v, g) by rw [hs]; rfl
    unfold evConvert at hv ⊢
    split at hv
    · rename_i h3 h4 h5
      cases hv
      rfl
    · cases hv
      rfl
    · split at hv
      · rename_i he2
        split at hv
        · rename_i h0
          cases hv
          simp only [he2, h0, if_true]
        · split at hv
          · cases hv
            simp [newRowH, Heap.push] at hnx
          · cases hv
      · cases hv
    · rename_i h5 h6 h7
      rw [h7] at hq
      split at hv
      · rename_i he2
        split at hv
        · rename_i xs hxs
          obtain ⟨l, hl, hr3⟩ := Option.map_eq_some_iff.1 hv
          cases hr3
          simp only [he2, evElems_congr hq, hxs, hl, Option.map_some]
        · cases hv
      · cases hv
    · cases hv
  · split at hc <;> simp at hc
end Go.Proofs.Ytfehhihllenjiaa
