/- Rows of ints. -/
import Derived.Test.YtfehhihllenjiaaS9
set_option linter.all false
namespace Go.Proofs.Ytfehhihllenjiaa
def biv (xs : List Nat) : List Value := xs.map iv
theorem biv_append (xs ys : List Nat) : biv (xs ++ ys) = biv xs ++ biv ys := by simp [biv]
/-- A slice of ints that are nowhere below nothing. -/
abbrev Iv (h : Heap) (v : Value) (xs : List Nat) : Prop := Sl 1 h v xs.length (biv xs)
abbrev OwI (lo : Nat) (h : Heap) (v : Value) (xs : List Nat) : Prop := Ow lo 1 h v xs.length (biv xs)
section
variable {P : Program} {call : Value → Phi} {e : Env} {h h' H : Heap} {Q : Post} {all : Array Oper} {l : List Oper} {ty : TypeId} {pos : String} {af : Array Edge}
variable {t el xt el2 : TypeId} {info : TypeInfo} {z v w : Value} {lo i : Nat} {xs : List Nat} {a b : Operand} {d : Nat}
theorem iv_ld {i : Nat} (hd : P.underlying el = some (.int .i64)) (hi : P.info? el = some info) (s : Iv h v xs) (f : Fr h.nx h H) (hn : i < xs.length) : evLoad P el (ptrAt 1 v i) H = some (iv (xs.getD i 0)) := by
  rw [sl_ld hd hi rfl (s.fr0 f) hn]
  unfold biv
  rw [List.getElem?_map, List.getElem?_eq_getElem hn, List.getD_eq_getElem?_getD, List.getElem?_eq_getElem hn]
  rfl
theorem R_appI (E : ElOk P t el info 1 z) (hx : P.underlying xt = some (.slice el2)) {x p : Nat} (ha : ev e a = v) (hb : ev e b = .slice (some ⟨p, 0, none⟩) 1 1) (s : OwI lo h v xs) (hp : p < h.nx) (ho : h.obj p = some (.row .rw 1 [iv x])) (hl : lo ≤ h.nx) (hle : xs.length + 1 ≤ 4294967296)
    (k : ∀ v' h', OwI lo h' v' (xs ++ [x]) → Went v v' h h' → W (evOps call P all l (upd e d v') h') Q) :
    W (evOps call P all (⟨some d, .call ⟨.builtin .append, #[a, b], #[t, xt]⟩, ty, pos, af, none⟩ :: l) e h) Q := by
  refine R_appG (m := 1) (ys := [iv x]) E hx ha hb s ?_ rfl hl hle ?_
  · exact .mk (k := .rw) (es' := 1) (cs' := [iv x]) hp ho (fun h => by cases h) (Nat.le_refl _) (by simp) rfl
  · intro v' h' o wt
    refine k v' h' ?_ wt
    unfold OwI
    rw [List.length_append, biv_append]
    exact o
theorem st_ownI {x : Nat} (hi : P.info? el = some info) (hs : info.size = 1) {i : Nat} (s : OwI lo h v xs) (hx : i < xs.length) :
    ∃ h', evStore P el (ptrAt 1 v i) (iv x) h = some h' ∧ OwI lo h' v (xs.set i x) ∧ Went v v h h' ∧ h'.nx = h.nx := by
  have key : ∀ n cs, Ow lo 1 h v n cs → n = xs.length → cs = biv xs → ∃ h', evStore P el (ptrAt 1 v i) (iv x) h = some h' ∧ OwI lo h' v (xs.set i x) ∧ Went v v h h' ∧ h'.nx = h.nx := by
    intro n cs s hn hcs
    cases s with
    | nil => omega
    | empty => omega
    | row hlo hb hk ho hnc hrw hgr =>
      rename_i b c k cs'
      have hlen : n ≤ cs'.length := by
        cases k with
        | ro => exact absurd rfl hk
        | rw => have := hrw rfl; omega
        | grow => have := (hgr rfl).2; omega
      have e1 : evStore P el (ptrAt 1 (.slice (some ⟨b, 0, none⟩) n c) i) (iv x) h = some (h.put b (some (.row k 1 (cs'.set i (iv x))))) := by
        show evStore P el (.pointer (some ⟨b, 0 + i * 1, none⟩)) (iv x) h = _
        rw [st_one hi hs rfl rfl, ho]
        simp only [put1, Nat.zero_add, Nat.mul_one]
        rw [if_pos ⟨hk, by omega⟩]
      refine ⟨_, e1, ?_, ⟨Nat.le_refl _, fun r _ hm => by rw [obj_put, if_neg]; simpa [rowsOfV] using hm, fun r hr => .inl hr⟩, rfl⟩
      unfold OwI
      rw [List.length_set, ← hn]
      refine .mk (k := k) (cs' := cs'.set i (iv x)) hlo hb hk (by rw [obj_put, if_pos rfl]) hnc (fun h => by rw [List.length_set]; exact hrw h) (fun h => by rw [List.length_set]; exact hgr h) ?_
      rw [List.take_set, hcs, biv, biv, List.map_set]
  exact key _ _ s rfl rfl
theorem R_stI {x : Nat} (hi : P.info? el = some info) (hs : info.size = 1) {i : Nat} (ha : ev e a = ptrAt 1 v i) (hb : ev e b = iv x) (s : OwI lo h v xs) (hx : i < xs.length)
    (k : ∀ h', OwI lo h' v (xs.set i x) → Went v v h h' → h'.nx = h.nx → W (evOps call P all l e h') Q) :
    W (evOps call P all (⟨none, .store el a b, ty, pos, af, none⟩ :: l) e h) Q := by
  obtain ⟨h', h1, h2, h3, h4⟩ := st_ownI (x := x) hi hs s hx
  refine R_op0 (v := undef) (h' := h') ?_ (k h' h2 h3 h4)
  rw [op_store, ha, hb, h1]; rfl
theorem D_stI {x : Nat} {F : List Nat} {S : Nat → Prop} {j : Nat} (hi : P.info? el = some info) (hs : info.size = 1) {i : Nat} (ha : ev e a = ptrAt 1 v i) (hb : ev e b = iv x) (s : OwI lo h v xs) (hx : i < xs.length)
    (hfr : F.contains j = true → ∀ r ∈ rowsOfV v, ¬ S r)
    (k : ∀ h', OwI lo h' v (xs.set i x) → Went v v h h' → h'.nx = h.nx → WD call P all F S (j + 1) l e h' Q) :
    WD call P all F S j (⟨none, .store el a b, ty, pos, af, none⟩ :: l) e h Q := by
  obtain ⟨h', h1, h2, h3, h4⟩ := st_ownI (x := x) hi hs s hx
  refine D_op0 (v := undef) (h' := h') ?_ (fun hF => chk_store (fun r hr hn => h3.rest r hn (fun hm => hfr hF r hm hr))) (k h' h2 h3 h4)
  rw [op_store, ha, hb, h1]; rfl
theorem mkI_own (E : ElOk P t el info 1 (iv 0)) {l c : Nat} (hlc : l ≤ c) (hc : c * info.bytes ≤ 281474976710656) (hc2 : c ≤ 281474976710656) :
    ∃ v h', evMakeSlice P t (iv l) (iv c) h = some (v, h') ∧ OwI h.nx h' v (List.replicate l 0) ∧ Fr h.nx h h' ∧ h'.nx ≤ h.nx + 1 := by
  unfold evMakeSlice
  have e1 : (0 : Int) ≤ (l : Int) ∧ (l : Int) ≤ (c : Int) ∧ (info.bytes : Int) * (c : Int) ≤ 2 ^ 48 ∧ (c : Int) ≤ 2 ^ 48 ∧ (iv 0).cells.size = info.size ∧ 0 < info.size := by
    refine ⟨by omega, by omega, ?_, by omega, E.hc.trans E.hs.symm, by rw [E.hs]; omega⟩
    have : (info.bytes : Int) * (c : Int) = ((c * info.bytes : Nat) : Int) := by rw [Nat.mul_comm]; simp
    rw [this]; omega
  have hv : ∀ n : Nat, evInt (iv n) = some (n : Int) := fun _ => rfl
  simp only [E.hd, E.hi, E.hz, hv]
  rw [if_pos e1]
  by_cases h0 : c = 0
  · subst h0
    have : l = 0 := by omega
    subst this
    exact ⟨_, _, if_pos rfl, .empty, .refl _ _, by omega⟩
  · rw [if_neg (by omega)]
    refine ⟨_, _, rfl, ?_, Fr.new (.refl _ _) (Nat.le_refl _) _ _ _, by rw [nx_new]; omega⟩
    simp only [Int.toNat_natCast]
    unfold OwI
    rw [List.length_replicate, E.hs]
    refine .mk (k := .rw) (cs' := List.replicate c (iv 0)) (Nat.le_refl _) (by rw [nx_new]; omega) (by simp) (by rw [obj_new, if_pos rfl]; rfl) hlc (fun _ => by simp) (fun h => by cases h) ?_
    simp only [biv, List.take_replicate, List.map_replicate]
    congr 1; omega
theorem R_mkI (E : ElOk P t el info 1 (iv 0)) {n m : Nat} (ha : ev e a = iv n) (hb : ev e b = iv m) (hlc : n ≤ m) (hc : m * info.bytes ≤ 281474976710656) (hc2 : m ≤ 281474976710656)
    (k : ∀ v' h', OwI h.nx h' v' (List.replicate n 0) → Fr h.nx h h' → h'.nx ≤ h.nx + 1 → W (evOps call P all l (upd e d v') h') Q) :
    W (evOps call P all (⟨some d, .makeSlice t a b, ty, pos, af, none⟩ :: l) e h) Q := by
  obtain ⟨v', h', h1, h2, h3, h4⟩ := mkI_own (h := h) E hlc hc hc2
  refine R_op (v := v') (h' := h') ?_ (k v' h' h2 h3 h4)
  rw [op_makeSlice, ha, hb, h1]; rfl
theorem R_grdN {op : Op} {d j : Nat} {want : Bool} (hy : yieldedA all e j = none) (hw : W (evOps call P all l (upd e d undef) h) Q) :
    W (evOps call P all (⟨some d, op, ty, pos, af, some (j, want)⟩ :: l) e h) Q := by
  rw [ops_guard, hy]
  rw [if_neg (by simp)]
  exact hw
end
end Go.Proofs.Ytfehhihllenjiaa
