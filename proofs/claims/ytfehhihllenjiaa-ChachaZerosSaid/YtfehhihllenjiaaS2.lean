/- Slices in runs; loops with what is kept. -/
import Derived.Test.YtfehhihllenjiaaRR
set_option linter.all false
namespace Go.Proofs.Ytfehhihllenjiaa

section
variable {P : Program} {R : Nat} {call : Value → Phi} {ar : Option Nat} {e : Env} {h : Heap} {Q : Post}
/-- A loop: slots and rows that stay, and what holds ahead of each round. -/
theorem W_loopK {b : Code} (ts rs : List Nat) (I : Nat → Env → Heap → Prop) (n : Nat) (hn : n < R) (h0 : I 0 e h)
    (hs : ∀ k, k < n → ∀ e' h', ts.map e' = ts.map e → rs.map h'.obj = rs.map h.obj → h.nx ≤ h'.nx → I k e' h' → W (evS P R call ar b e' h') fun x e2 h2 => x = .normal ∧ ts.map e2 = ts.map e' ∧ rs.map h2.obj = rs.map h'.obj ∧ h'.nx ≤ h2.nx ∧ I (k + 1) e2 h2)
    (he : ∀ e' h', ts.map e' = ts.map e → rs.map h'.obj = rs.map h.obj → h.nx ≤ h'.nx → I n e' h' → W (evS P R call ar b e' h') fun x e2 h2 => x ≠ .normal ∧ Q x e2 h2) : W (evS P R call ar (.loop b) e h) Q := by
  refine W_loop (fun k e' h' => ts.map e' = ts.map e ∧ rs.map h'.obj = rs.map h.obj ∧ h.nx ≤ h'.nx ∧ I k e' h') n hn ⟨rfl, rfl, Nat.le_refl _, h0⟩ ?_ ?_
  · intro k hk e' h' ⟨a1, a2, a3, a4⟩
    refine (hs k hk e' h' a1 a2 a3 a4).mono fun x e2 h2 ⟨b1, b2, b3, b4, b5⟩ => ⟨b1, b2.trans a1, b3.trans a2, Nat.le_trans a3 b4, b5⟩
  · intro e' h' ⟨a1, a2, a3, a4⟩
    exact he e' h' a1 a2 a3 a4
/-- A loop with two ways out: a round goes on, or ends the loop. -/
theorem W_loopX {b : Code} (ts rs : List Nat) (I : Nat → Env → Heap → Prop) (n : Nat) (hn : n < R) (h0 : I 0 e h)
    (hs : ∀ k, k < n → ∀ e' h', ts.map e' = ts.map e → rs.map h'.obj = rs.map h.obj → h.nx ≤ h'.nx → I k e' h' → W (evS P R call ar b e' h') fun x e2 h2 => (x = .normal ∧ ts.map e2 = ts.map e' ∧ rs.map h2.obj = rs.map h'.obj ∧ h'.nx ≤ h2.nx ∧ I (k + 1) e2 h2) ∨ (x ≠ .normal ∧ Q x e2 h2))
    (he : ∀ e' h', ts.map e' = ts.map e → rs.map h'.obj = rs.map h.obj → h.nx ≤ h'.nx → I n e' h' → W (evS P R call ar b e' h') fun x e2 h2 => x ≠ .normal ∧ Q x e2 h2) : W (evS P R call ar (.loop b) e h) Q := by
  rw [S_loop]
  have main : ∀ m k e' h', m + k = n → ∀ R', m < R' → ts.map e' = ts.map e → rs.map h'.obj = rs.map h.obj → h.nx ≤ h'.nx → I k e' h' → W (iter (evS P R call ar b) R' e' h') Q := by
    intro m
    induction m with
    | zero =>
      intro k e' h' hk R' hR a1 a2 a3 hI
      have hk2 : k = n := by omega
      subst hk2
      rw [W_iter hR]
      have hx := he e' h' a1 a2 a3 hI
      unfold W at hx ⊢
      obtain ⟨x, e1, h1, h2, h3, h4⟩ := hx
      refine ⟨x, e1, h1, h2, ?_⟩
      cases x with
      | normal => exact absurd rfl h3
      | _ => unfold seqQ; exact h4
    | succ m ih =>
      intro k e' h' hk R' hR a1 a2 a3 hI
      rw [W_iter (by omega)]
      have hx := hs k (by omega) e' h' a1 a2 a3 hI
      unfold W at hx ⊢
      obtain ⟨x, e1, h1, h2, ⟨rfl, b2, b3, b4, b5⟩ | ⟨h3, h4⟩⟩ := hx
      · refine ⟨_, e1, h1, h2, ?_⟩
        have h9 := ih (k + 1) e1 h1 (by omega) (R' - 1) (by omega) (b2.trans a1) (b3.trans a2) (Nat.le_trans a3 b4) b5
        unfold W at h9
        unfold seqQ
        exact h9
      · refine ⟨x, e1, h1, h2, ?_⟩
        cases x with
        | normal => exact absurd rfl h3
        | _ => unfold seqQ; exact h4
  exact main n 0 e h rfl R hn rfl rfl (Nat.le_refl _) h0
end

/-! frames, for the simplifier -/
theorem fr_new {lo : Nat} {h h' : Heap} {k : Kind} {es : Nat} {cs : List Value} (a : Fr lo h h') (hl : lo ≤ h'.nx) : Fr lo h (newRowH h' k es cs) := a.new hl k es cs
theorem fr_put {lo : Nat} {h h' : Heap} {b : Nat} {o : Option AObj} (a : Fr lo h h') (hl : lo ≤ b) : Fr lo h (h'.put b o) := a.put hl o
theorem fr_nx {lo : Nat} {h h' : Heap} (a : Fr lo h h') : h.nx ≤ h'.nx := a.1
theorem lt_ne {p n : Nat} (h : p < n) : (p = n) = False := eq_false (by omega)
theorem lt_ne' {p n : Nat} (h : p < n) : (n = p) = False := eq_false (by omega)
section
variable {P : Program} {t el src dst : TypeId} {info : TypeInfo} {es : Nat} {h H : Heap} {v w : Value} {n : Nat} {cs : List Value} {xs ys : List (BitVec 8)} {i l hh : Nat}
theorem by_ldF (hd : P.underlying el = some (.int .u8)) (hi : P.info? el = some info) (s : By h v xs) (f : Fr h.nx h H) (hn : i < xs.length) : evLoad P el (ptrAt 1 v i) H = some (w8 (xs.getD i 0#8)) := by_ld hd hi (s.fr0 f) hn
theorem sl_hF (hd : P.underlying t = some (.slice el)) (hin : P.info? el = some info) (hs : info.size = es) (s : Sl es h v n cs) (f : Fr h.nx h H) (h2 : hh ≤ n) : evSlice P t v none (some (iv hh)) none H = some (subS es 0 hh none v) := sl_h hd hin hs (s.fr0 f) h2
theorem sl_lF (hd : P.underlying t = some (.slice el)) (hin : P.info? el = some info) (hs : info.size = es) (s : Sl es h v n cs) (f : Fr h.nx h H) (h1 : l ≤ n) : evSlice P t v (some (iv l)) none none H = some (subS es l n none v) := sl_l hd hin hs (s.fr0 f) h1
theorem sl_slhF (hd : P.underlying t = some (.slice el)) (hin : P.info? el = some info) (hs : info.size = es) (s : Sl es h v n cs) (f : Fr h.nx h H) (h1 : l ≤ hh) (h2 : hh ≤ n) : evSlice P t v (some (iv l)) (some (iv hh)) none H = some (subS es l hh none v) := sl_slh hd hin hs (s.fr0 f) h1 h2
theorem by_strF (hs : P.underlying src = some (.slice el)) (hd : P.underlying dst = some .string) (he : P.underlying el = some (.int .u8)) (s : By h v xs) (f : Fr h.nx h H) : evConvert P src dst v H = some (.string (bstr xs), H) := by_str (sd := .string) hs hd he (s.fr0 f)
end

/-! own bytes -/
abbrev OwB (lo : Nat) (h : Heap) (v : Value) (xs : List (BitVec 8)) : Prop := Ow lo 1 h v xs.length (b8 xs)
section
variable {P : Program} {t el xt el2 : TypeId} {info : TypeInfo} {z : Value} {lo : Nat} {h h' : Heap} {v w : Value} {n m : Nat} {xs ys : List (BitVec 8)} {cs : List Value}
theorem b8_all (xs : List (BitVec 8)) : (b8 xs).all (fun v => v.oneCell') = true := b8_one xs
theorem app_by (E : ElOk P t el info 1 z) (hx : P.underlying xt = some (.slice el2)) (s : OwB lo h v xs) (hw : By h w ys) (hl : lo ≤ h.nx) (hle : xs.length + ys.length ≤ 4294967296) :
    ∃ v' h', evAppend P t xt v w h = some (v', h') ∧ OwB lo h' v' (xs ++ ys) ∧ Went v v' h h' := by
  obtain ⟨v', h', h1, h2, h3⟩ := app_ow E s (new_sl (info := info) (z := z) hx E.hs hw) (by rw [hw.length]) (b8_all ys) hl hle
  exact ⟨v', h', h1, by unfold OwB; rw [List.length_append, b8_append]; exact h2, h3⟩
/-- 'append' of bytes that are 0. -/
theorem app_zero (E : ElOk P t el info 1 (w8 0#8)) {k : IntKind} (hx : P.underlying xt = some (.int k)) (s : OwB lo h v xs) (hm : m ≤ 4294967296) (hl : lo ≤ h.nx) (hle : xs.length + m ≤ 4294967296) :
    ∃ v' h', evAppend P t xt v (iv m) h = some (v', h') ∧ OwB lo h' v' (xs ++ List.replicate m 0#8) ∧ Went v v' h h' := by
  obtain ⟨v', h', h1, h2, h3⟩ := app_ow E s (ys := b8 (List.replicate m 0#8)) (new_int (info := info) (z := w8 0#8) hx hm |>.trans (by
    show some (m, zeroCellsL [w8 0#8] m) = _
    simp only [zeroCellsL, rep8])) (by rw [b8_length, List.length_replicate, Nat.mul_one]) (b8_all _) hl hle
  exact ⟨v', h', h1, by unfold OwB; rw [List.length_append, List.length_replicate, b8_append]; exact h2, h3⟩
theorem mk_own (E : ElOk P t el info 1 (w8 0#8)) {l c : Nat} (hlc : l ≤ c) (hc : c * info.bytes ≤ 281474976710656) (hc2 : c ≤ 281474976710656) :
    ∃ v h', evMakeSlice P t (iv l) (iv c) h = some (v, h') ∧ OwB h.nx h' v (List.replicate l 0#8) ∧ Fr h.nx h h' ∧ h'.nx ≤ h.nx + 1 := by
  unfold evMakeSlice
  have e1 : (0 : Int) ≤ (l : Int) ∧ (l : Int) ≤ (c : Int) ∧ (info.bytes : Int) * (c : Int) ≤ 2 ^ 48 ∧ (c : Int) ≤ 2 ^ 48 ∧ (w8 0#8).cells.size = info.size ∧ 0 < info.size := by
    refine ⟨by omega, by omega, ?_, by omega, E.hc.trans E.hs.symm, by rw [E.hs]; omega⟩
    have : (info.bytes : Int) * (c : Int) = ((c * info.bytes : Nat) : Int) := by rw [Nat.mul_comm]; simp
    rw [this]; omega
  simp only [E.hd, E.hi, E.hz, evInt, iv]
  rw [if_pos e1]
  by_cases h0 : c = 0
  · subst h0
    have : l = 0 := by omega
    subst this
    exact ⟨_, _, if_pos rfl, .empty, .refl _ _, by omega⟩
  · rw [if_neg (by omega)]
    refine ⟨_, _, rfl, ?_, Fr.new (.refl _ _) (Nat.le_refl _) _ _ _, by rw [nx_new]; omega⟩
    simp only [Int.toNat_natCast]
    unfold OwB
    rw [List.length_replicate, E.hs]
    refine .mk (k := .rw) (cs' := List.replicate c (w8 0#8)) (Nat.le_refl _) (by rw [nx_new]; omega) (by simp) (by rw [obj_new, if_pos rfl]; rfl) hlc (fun _ => by simp) (fun h => by cases h) ?_
    simp only [b8, List.take_replicate, List.map_replicate]
    congr 1; omega
/-- One's own slice, written. -/
theorem st_own (hi : P.info? el = some info) (hs : info.size = 1) {x : BitVec 8} {i : Nat} (s : OwB lo h v xs) (hx : i < xs.length) :
    ∃ h', evStore P el (ptrAt 1 v i) (w8 x) h = some h' ∧ OwB lo h' v (xs.set i x) ∧ Went v v h h' ∧ h'.nx = h.nx := by
  have key : ∀ n cs, Ow lo 1 h v n cs → n = xs.length → cs = b8 xs → ∃ h', evStore P el (ptrAt 1 v i) (w8 x) h = some h' ∧ OwB lo h' v (xs.set i x) ∧ Went v v h h' ∧ h'.nx = h.nx := by
    intro n cs s hn hcs
    cases s with
    | nil => omega
    | empty => omega
    | row hlo hb hk ho hnc hrw hgr =>
      rename_i b c k cs'
      have hlen : n ≤ cs'.length := by
        cases k with
        | ro => exact absurd rfl hk
        | rw => have := hrw rfl; omega
        | grow => have := (hgr rfl).2; omega
      have e1 : evStore P el (ptrAt 1 (.slice (some ⟨b, 0, none⟩) n c) i) (w8 x) h = some (h.put b (some (.row k 1 (cs'.set i (w8 x))))) := by
        show evStore P el (.pointer (some ⟨b, 0 + i * 1, none⟩)) (w8 x) h = _
        rw [st_one hi hs rfl rfl, ho]
        simp only [put1, Nat.zero_add, Nat.mul_one]
        rw [if_pos ⟨hk, by omega⟩]
      refine ⟨_, e1, ?_, ⟨Nat.le_refl _, fun r _ hm => by rw [obj_put, if_neg]; simpa [rowsOfV] using hm, fun r hr => .inl hr⟩, rfl⟩
      unfold OwB
      rw [List.length_set, ← hn]
      refine .mk (k := k) (cs' := cs'.set i (w8 x)) hlo hb hk (by rw [obj_put, if_pos rfl]) hnc (fun h => by rw [List.length_set]; exact hrw h) (fun h => by rw [List.length_set]; exact hgr h) ?_
      rw [List.take_set, hcs, b8, b8, List.map_set]
  exact key _ _ s rfl rfl
/-- 'copy' into one's own slice. -/
theorem cp_own (E : ElOk P t el info 1 z) (s : OwB lo h v xs) (hw : By h w ys) (hle : ys.length ≤ xs.length) :
    ∃ h', evCopy P t v w h = some (iv ys.length, h') ∧ OwB lo h' v (ys ++ xs.drop ys.length) ∧ Went v v h h' ∧ h'.nx = h.nx := by
  have hmin : Nat.min ys.length xs.length = ys.length := Nat.min_eq_left hle
  have hel := sl_elems hw (Nat.le_refl _)
  rw [List.take_of_length_le (by rw [b8_length]; omega)] at hel
  have key : ∀ n cs, Ow lo 1 h v n cs → n = xs.length → cs = b8 xs → ∃ h', evCopy P t v w h = some (iv ys.length, h') ∧ OwB lo h' v (ys ++ xs.drop ys.length) ∧ Went v v h h' ∧ h'.nx = h.nx := by
    intro n cs s hn hcs
    have hvl : evLen v = some n := sl_evLen s.sl
    have hsv : isSliceV v = true := by cases s <;> rfl
    unfold evCopy
    simp only [E.hd, E.hi, hvl, sl_evLen hw, hsv, hn, hmin, E.hs, hel]
    by_cases h0 : ys = []
    · subst h0
      refine ⟨h, if_pos b8_nil, ?_, ⟨Nat.le_refl _, fun _ _ _ => rfl, fun r hr => .inl hr⟩, rfl⟩
      unfold OwB
      simp only [List.length_nil, List.drop_zero, List.nil_append]
      rw [← hn, ← hcs]; exact s
    · have hne : b8 ys ≠ [] := fun hh => h0 (by cases ys with | nil => rfl | cons => simp [b8] at hh)
      rw [if_neg hne]
      have hpos : 0 < ys.length := List.length_pos_iff.2 h0
      cases s with
      | nil => omega
      | empty => omega
      | row hlo hb hk ho hnc hrw hgr =>
        rename_i b c k cs'
        have hlen : n ≤ cs'.length := by
          cases k with
          | ro => exact absurd rfl hk
          | rw => have := hrw rfl; omega
          | grow => have := (hgr rfl).2; omega
        simp only [ho]
        rw [if_pos ⟨hk, by rw [b8_length]; omega, b8_all _⟩]
        refine ⟨_, rfl, ?_, ⟨Nat.le_refl _, fun r _ hm => by rw [obj_put, if_neg]; simpa [rowsOfV] using hm, fun r hr => .inl hr⟩, rfl⟩
        unfold OwB
        have hl2 : (ys ++ xs.drop ys.length).length = n := by simp; omega
        rw [hl2, hn]
        rw [← hn]
        refine .mk (k := k) (cs' := setAt cs' 0 (b8 ys)) hlo hb hk (by rw [obj_put, if_pos rfl]) hnc (fun h => by rw [setAt_length]; exact hrw h) (fun h => by rw [setAt_length]; exact hgr h) ?_
        have h2 := setAt_append (b8 ys) [] cs' (by rw [b8_length]; omega)
        simp only [List.nil_append, List.length_nil] at h2
        rw [h2, b8_append, b8_drop, ← hcs]
        rw [List.take_append, b8_length, List.take_of_length_le (by rw [b8_length]; omega)]
        congr 1
        rw [Nat.mul_one, List.drop_take]
  exact key _ _ s rfl rfl
end

/-! the same, as steps of a run -/
section
variable {P : Program} {R : Nat} {call : Value → Phi} {ar : Option Nat} {e : Env} {h h' : Heap} {Q : Post} {all : Array Oper} {l : List Oper} {ty : TypeId} {pos : String} {af : Array Edge}
variable {t el xt el2 : TypeId} {info : TypeInfo} {z : Value} {lo : Nat} {xs ys : List (BitVec 8)} {a b c : Operand} {d : Nat}
theorem R_app (E : ElOk P t el info 1 z) (hx : P.underlying xt = some (.slice el2)) {v w : Value} (ha : ev e a = v) (hb : ev e b = w) (s : OwB lo h v xs) (hw : By h w ys) (hl : lo ≤ h.nx) (hle : xs.length + ys.length ≤ 4294967296)
    (k : ∀ v' h', OwB lo h' v' (xs ++ ys) → Went v v' h h' → W (evOps call P all l (upd e d v') h') Q) :
    W (evOps call P all (⟨some d, .call ⟨.builtin .append, #[a, b], #[t, xt]⟩, ty, pos, af, none⟩ :: l) e h) Q := by
  subst ha hb
  obtain ⟨v', h', h1, h2, h3⟩ := app_by E hx s hw hl hle
  refine R_op (v := v') (h' := h') ?_ (k v' h' h2 h3)
  rw [op_builtin]
  show okVH (evAppend P t xt (ev e a) (ev e b) h) = _
  rw [h1]; rfl
theorem R_app0 (E : ElOk P t el info 1 (w8 0#8)) {k : IntKind} (hx : P.underlying xt = some (.int k)) {v : Value} {m : Nat} (ha : ev e a = v) (hb : ev e b = iv m) (s : OwB lo h v xs) (hl : lo ≤ h.nx) (hm : m ≤ 4294967296) (hle : xs.length + m ≤ 4294967296)
    (k : ∀ v' h', OwB lo h' v' (xs ++ List.replicate m 0#8) → Went v v' h h' → W (evOps call P all l (upd e d v') h') Q) :
    W (evOps call P all (⟨some d, .call ⟨.builtin .append, #[a, b], #[t, xt]⟩, ty, pos, af, none⟩ :: l) e h) Q := by
  subst ha
  obtain ⟨v', h', h1, h2, h3⟩ := app_zero E hx s hm hl hle
  refine R_op (v := v') (h' := h') ?_ (k v' h' h2 h3)
  rw [op_builtin]
  show okVH (evAppend P t xt (ev e a) (ev e b) h) = _
  rw [hb, h1]; rfl
theorem R_mk (E : ElOk P t el info 1 (w8 0#8)) {n m : Nat} (ha : ev e a = iv n) (hb : ev e b = iv m) (hlc : n ≤ m) (hc : m ≤ 1099511627776) (hby : info.bytes = 1)
    (k : ∀ v' h', OwB h.nx h' v' (List.replicate n 0#8) → Fr h.nx h h' → h'.nx ≤ h.nx + 1 → W (evOps call P all l (upd e d v') h') Q) :
    W (evOps call P all (⟨some d, .makeSlice t a b, ty, pos, af, none⟩ :: l) e h) Q := by
  obtain ⟨v', h', h1, h2, h3, h4⟩ := mk_own (h := h) E hlc (by rw [hby]; omega) (by omega)
  refine R_op (v := v') (h' := h') ?_ (k v' h' h2 h3 h4)
  rw [op_makeSlice, ha, hb, h1]; rfl
theorem R_cp (E : ElOk P t el info 1 z) {v w : Value} (ha : ev e a = v) (hb : ev e b = w) (s : OwB lo h v xs) (hw : By h w ys) (hle : ys.length ≤ xs.length)
    (k : ∀ h', OwB lo h' v (ys ++ xs.drop ys.length) → Went v v h h' → h'.nx = h.nx → W (evOps call P all l (upd e d (iv ys.length)) h') Q) :
    W (evOps call P all (⟨some d, .call ⟨.builtin .copy, #[a, b], #[t, xt]⟩, ty, pos, af, none⟩ :: l) e h) Q := by
  subst ha hb
  obtain ⟨h', h1, h2, h3, h4⟩ := cp_own E s hw hle
  refine R_op (v := iv ys.length) (h' := h') ?_ (k h' h2 h3 h4)
  rw [op_builtin]
  show okVH (evCopy P t (ev e a) (ev e b) h) = _
  rw [h1]; rfl
theorem R_st (hi : P.info? el = some info) (hs : info.size = 1) {v : Value} {x : BitVec 8} {i : Nat} (ha : ev e a = ptrAt 1 v i) (hb : ev e b = w8 x) (s : OwB lo h v xs) (hx : i < xs.length)
    (k : ∀ h', OwB lo h' v (xs.set i x) → Went v v h h' → h'.nx = h.nx → W (evOps call P all l e h') Q) :
    W (evOps call P all (⟨none, .store el a b, ty, pos, af, none⟩ :: l) e h) Q := by
  obtain ⟨h', h1, h2, h3, h4⟩ := st_own hi hs s hx
  refine R_op0 (v := undef) (h' := h') ?_ (k h' h2 h3 h4)
  rw [op_store, ha, hb, h1]; rfl
end
end Go.Proofs.Ytfehhihllenjiaa
