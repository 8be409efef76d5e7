/- Slices that are full. -/
import Derived.Test.YtfehhihllenjiaaS9
set_option linter.all false
namespace Go.Proofs.Ytfehhihllenjiaa
section
variable {P : Program} {R : Nat} {call : Value → Phi} {ar : Option Nat} {e : Env} {h h' : Heap} {Q : Post} {all : Array Oper} {l : List Oper} {ty : TypeId} {pos : String} {af : Array Edge}
variable {t el xt el2 : TypeId} {info : TypeInfo} {z : Value} {lo : Nat} {xs ys : List (BitVec 8)} {a b c : Operand} {d : Nat}
def capOf : Value → Nat
  | .slice _ _ c => c
  | _ => 0
/-- What an append does to the room behind a slice. -/
structure Room (v v' : Value) (h h' : Heap) (n m : Nat) : Prop where
  keep : n + m ≤ capOf v → capOf v' = capOf v
  full : capOf v = n → 0 < m → ∀ r ∈ rowsOfV v', h.nx ≤ r
  none : m = 0 → v' = v ∧ h' = h
theorem app_room (E : ElOk P t el info 1 z) (hx : P.underlying xt = some (.slice el2)) {v w v' : Value} (s : OwB lo h v xs) (hw : By h w ys) (he : evAppend P t xt v w h = some (v', h')) :
    Room v v' h h' xs.length ys.length := by
  have hn := new_sl (info := info) (z := z) hx E.hs hw
  have c1 : z.cells.size = info.size ∧ 0 < info.size ∧ info.bytes ≤ 2 ^ 12 ∧ (b8 ys).all (fun v => v.oneCell') = true := ⟨by rw [E.hc, E.hs], by rw [E.hs]; exact E.h0, E.hb, b8_all ys⟩
  unfold OwB at s
  generalize xs.length = n at s
  generalize b8 xs = cs at s
  generalize ys.length = m at hn
  cases s with
  | nil =>
    simp only [evAppend, E.hd, E.hi, E.hz, hn] at he
    rw [if_pos c1] at he
    by_cases h0 : m = 0
    · rw [if_pos h0] at he
      cases he
      exact ⟨fun _ => rfl, fun _ h1 => by omega, fun _ => ⟨rfl, rfl⟩⟩
    · rw [if_neg h0] at he
      split at he
      · cases he
        exact ⟨fun h1 => by simp [capOf] at h1; omega, fun _ _ r hr => by simp [rowsOfV] at hr; omega, fun h1 => absurd h1 h0⟩
      · cases he
  | empty =>
    simp only [evAppend, E.hd, E.hi, E.hz, hn, emptyS] at he
    rw [if_pos c1] at he
    by_cases h0 : m = 0
    · rw [if_pos h0] at he
      cases he
      exact ⟨fun _ => rfl, fun _ h1 => by omega, fun _ => ⟨rfl, rfl⟩⟩
    · rw [if_neg h0] at he
      split at he
      · cases he
        exact ⟨fun h1 => by simp [capOf, emptyS] at h1; omega, fun _ _ r hr => by simp [rowsOfV] at hr; omega, fun h1 => absurd h1 h0⟩
      · cases he
  | row hlo hb hk ho hnc hrw hgr =>
    rename_i b c k cs'
    simp only [evAppend, E.hd, E.hi, E.hz, hn, ho] at he
    rw [if_pos c1] at he
    by_cases hc : n + m ≤ c
    · rw [if_pos hc] at he
      by_cases h0 : m = 0
      · rw [if_pos h0] at he
        cases he
        exact ⟨fun _ => rfl, fun _ h1 => by omega, fun _ => ⟨rfl, rfl⟩⟩
      · rw [if_neg h0] at he
        split at he
        · cases he
          exact ⟨fun _ => rfl, fun h1 h2 => by simp only [capOf] at h1; omega, fun h1 => absurd h1 h0⟩
        · cases he
    · rw [if_neg hc] at he
      have h0 : m ≠ 0 := by omega
      have fin : ∀ (hh : Heap) (k : Kind) (cs : List Value), some (Value.slice (some ⟨h.nx, 0, none⟩) (n + m) (n + m), newRowH hh k info.size cs) = some (v', h') → Room (.slice (some ⟨b, 0, none⟩) n c) v' h h' n m := fun hh k cs e => by
        cases e
        exact ⟨fun h1 => by simp only [capOf] at h1; omega, fun _ _ r hr => by simp [rowsOfV] at hr; omega, fun h1 => absurd h1 h0⟩
      split at he
      · split at he
        · exact fin _ _ _ he
        · split at he
          · exact fin _ _ _ he
          · cases he
      · cases he
theorem R_appC (E : ElOk P t el info 1 z) (hx : P.underlying xt = some (.slice el2)) {v w : Value} (ha : ev e a = v) (hb : ev e b = w) (s : OwB lo h v xs) (hw : By h w ys) (hl : lo ≤ h.nx) (hle : xs.length + ys.length ≤ 4294967296)
    (k : ∀ v' h', OwB lo h' v' (xs ++ ys) → Went v v' h h' → Room v v' h h' xs.length ys.length → W (evOps call P all l (upd e d v') h') Q) :
    W (evOps call P all (⟨some d, .call ⟨.builtin .append, #[a, b], #[t, xt]⟩, ty, pos, af, none⟩ :: l) e h) Q := by
  subst ha hb
  obtain ⟨v', h', h1, h2, h3⟩ := app_by E hx s hw hl hle
  refine R_op (v := v') (h' := h') ?_ (k v' h' h2 h3 (app_room E hx s hw h1))
  rw [op_builtin]
  show okVH (evAppend P t xt (ev e a) (ev e b) h) = _
  rw [h1]; rfl
theorem D_appC {F : List Nat} {S : Nat → Prop} {i : Nat} (E : ElOk P t el info 1 z) (hx : P.underlying xt = some (.slice el2)) {v w : Value} (ha : ev e a = v) (hb : ev e b = w) (s : OwB lo h v xs) (hw : By h w ys) (hl : lo ≤ h.nx) (hle : xs.length + ys.length ≤ 4294967296)
    (hfr : ∀ v' h', OwB lo h' v' (xs ++ ys) → Went v v' h h' → Room v v' h h' xs.length ys.length → F.contains i = true → ∀ r, S r → r < h.nx → h'.obj r = h.obj r)
    (k : ∀ v' h', OwB lo h' v' (xs ++ ys) → Went v v' h h' → Room v v' h h' xs.length ys.length → WD call P all F S (i + 1) l (upd e d v') h' Q) :
    WD call P all F S i (⟨some d, .call ⟨.builtin .append, #[a, b], #[t, xt]⟩, ty, pos, af, none⟩ :: l) e h Q := by
  subst ha hb
  obtain ⟨v', h', h1, h2, h3⟩ := app_by E hx s hw hl hle
  have h4 := app_room E hx s hw h1
  refine D_op (v := v') (h' := h') ?_ (fun hF => chk_builtin (.inl rfl) (hfr v' h' h2 h3 h4 hF)) (k v' h' h2 h3 h4)
  rw [op_builtin]
  show okVH (evAppend P t xt (ev e a) (ev e b) h) = _
  rw [h1]; rfl
theorem mk_cap (E : ElOk P t el info 1 (w8 0#8)) {l c : Nat} {v : Value} (he : evMakeSlice P t (iv l) (iv c) h = some (v, h')) (hlc : l ≤ c) : capOf v = c := by
  unfold evMakeSlice at he
  simp only [E.hd, E.hi, E.hz, evInt, iv] at he
  split at he
  · split at he
    · rename_i h0
      cases he
      simp [capOf, emptyS] at *; omega
    · cases he
      simp [capOf]
  · cases he
theorem R_mkC (E : ElOk P t el info 1 (w8 0#8)) {n m : Nat} (ha : ev e a = iv n) (hb : ev e b = iv m) (hlc : n ≤ m) (hc : m ≤ 1099511627776) (hby : info.bytes = 1)
    (k : ∀ v' h', OwB h.nx h' v' (List.replicate n 0#8) → Fr h.nx h h' → h'.nx ≤ h.nx + 1 → capOf v' = m → W (evOps call P all l (upd e d v') h') Q) :
    W (evOps call P all (⟨some d, .makeSlice t a b, ty, pos, af, none⟩ :: l) e h) Q := by
  obtain ⟨v', h', h1, h2, h3, h4⟩ := mk_own (h := h) E hlc (by rw [hby]; omega) (by omega)
  refine R_op (v := v') (h' := h') ?_ (k v' h' h2 h3 h4 (mk_cap E h1 hlc))
  rw [op_makeSlice, ha, hb, h1]; rfl
end
end Go.Proofs.Ytfehhihllenjiaa
