/- Calls and slices in runs, in regions that draw too. -/
import Derived.Test.YtfehhihllenjiaaS3
set_option linter.all false
namespace Go.Proofs.Ytfehhihllenjiaa
section
variable {P : Program} {R : Nat} {call : Value → Phi} {ar : Option Nat} {e : Env} {h h' : Heap} {Q : Post} {all : Array Oper} {l : List Oper} {ty : TypeId} {pos : String} {af : Array Edge} {F : List Nat} {S : Nat → Prop} {i : Nat}
variable {t el xt el2 : TypeId} {info : TypeInfo} {z : Value} {lo : Nat} {xs ys : List (BitVec 8)} {a b c : Operand} {d : Nat}
theorem call_at {f : FuncId} {args : Array Operand} {ts : Array TypeId} : evO call P e h (.call ⟨.value (.func f), args, ts⟩) = call (.func (.func f) #[] #[]) (args.toList.map (ev e)) h := op_call
theorem R_fn {f : FuncId} {args : Array Operand} {ts : Array TypeId} {vals : List Value} {p : Value → Heap → Prop} (ha : args.toList.map (ev e) = vals) (hv : ∃ v h', call (.func (.func f) #[] #[]) vals h = some (.ok v, h') ∧ p v h')
    (hw : ∀ v h', p v h' → W (evOps call P all l (upd e d v) h') Q) : W (evOps call P all (⟨some d, .call ⟨.value (.func f), args, ts⟩, ty, pos, af, none⟩ :: l) e h) Q := by
  subst ha
  exact R_call (by rw [call_at]; exact hv) hw
theorem R_fn0 {f : FuncId} {args : Array Operand} {ts : Array TypeId} {vals : List Value} {p : Value → Heap → Prop} (ha : args.toList.map (ev e) = vals) (hv : ∃ v h', call (.func (.func f) #[] #[]) vals h = some (.ok v, h') ∧ p v h')
    (hw : ∀ v h', p v h' → W (evOps call P all l e h') Q) : W (evOps call P all (⟨none, .call ⟨.value (.func f), args, ts⟩, ty, pos, af, none⟩ :: l) e h) Q := by
  subst ha
  obtain ⟨v, h', h1, h2⟩ := hv
  exact R_op0 (by rw [call_at]; exact h1) (hw v h' h2)
theorem D_fn {f : FuncId} {args : Array Operand} {ts : Array TypeId} {vals : List Value} {p : Value → Heap → Prop} (ha : args.toList.map (ev e) = vals) (hv : ∃ v h', call (.func (.func f) #[] #[]) vals h = some (.ok v, h') ∧ p v h')
    (hi : isoOf P f = false) (hfr : ∀ v h', p v h' → F.contains i = true → ∀ r, S r → r < h.nx → h'.obj r = h.obj r)
    (hw : ∀ v h', p v h' → WD call P all F S (i + 1) l (upd e d v) h' Q) : WD call P all F S i (⟨some d, .call ⟨.value (.func f), args, ts⟩, ty, pos, af, none⟩ :: l) e h Q := by
  subst ha
  exact D_call (by rw [call_at]; exact hv) (fun v h' hp hF => chk_call hi (hfr v h' hp hF)) hw
theorem D_fn0 {f : FuncId} {args : Array Operand} {ts : Array TypeId} {vals : List Value} {p : Value → Heap → Prop} (ha : args.toList.map (ev e) = vals) (hv : ∃ v h', call (.func (.func f) #[] #[]) vals h = some (.ok v, h') ∧ p v h')
    (hi : isoOf P f = false) (hfr : ∀ v h', p v h' → F.contains i = true → ∀ r, S r → r < h.nx → h'.obj r = h.obj r)
    (hw : ∀ v h', p v h' → WD call P all F S (i + 1) l e h' Q) : WD call P all F S i (⟨none, .call ⟨.value (.func f), args, ts⟩, ty, pos, af, none⟩ :: l) e h Q := by
  subst ha
  obtain ⟨v, h', h1, h2⟩ := hv
  exact D_op0 (by rw [call_at]; exact h1) (fun hF => chk_call hi (hfr v h' h2 hF)) (hw v h' h2)
theorem D_app (E : ElOk P t el info 1 z) (hx : P.underlying xt = some (.slice el2)) {v w : Value} (ha : ev e a = v) (hb : ev e b = w) (s : OwB lo h v xs) (hw : By h w ys) (hl : lo ≤ h.nx) (hle : xs.length + ys.length ≤ 4294967296)
    (hfr : ∀ v' h', OwB lo h' v' (xs ++ ys) → Went v v' h h' → F.contains i = true → ∀ r, S r → r < h.nx → h'.obj r = h.obj r)
    (k : ∀ v' h', OwB lo h' v' (xs ++ ys) → Went v v' h h' → WD call P all F S (i + 1) l (upd e d v') h' Q) :
    WD call P all F S i (⟨some d, .call ⟨.builtin .append, #[a, b], #[t, xt]⟩, ty, pos, af, none⟩ :: l) e h Q := by
  subst ha hb
  obtain ⟨v', h', h1, h2, h3⟩ := app_by E hx s hw hl hle
  refine D_op (v := v') (h' := h') ?_ (fun hF => chk_builtin (.inl rfl) (hfr v' h' h2 h3 hF)) (k v' h' h2 h3)
  rw [op_builtin]
  show okVH (evAppend P t xt (ev e a) (ev e b) h) = _
  rw [h1]; rfl
theorem D_mk (E : ElOk P t el info 1 (w8 0#8)) {n m : Nat} (ha : ev e a = iv n) (hb : ev e b = iv m) (hlc : n ≤ m) (hc : m ≤ 1099511627776) (hby : info.bytes = 1)
    (k : ∀ v' h', OwB h.nx h' v' (List.replicate n 0#8) → Fr h.nx h h' → h'.nx ≤ h.nx + 1 → WD call P all F S (i + 1) l (upd e d v') h' Q) :
    WD call P all F S i (⟨some d, .makeSlice t a b, ty, pos, af, none⟩ :: l) e h Q := by
  obtain ⟨v', h', h1, h2, h3, h4⟩ := mk_own (h := h) E hlc (by rw [hby]; omega) (by omega)
  refine D_op (v := v') (h' := h') ?_ (fun _ => trivial) (k v' h' h2 h3 h4)
  rw [op_makeSlice, ha, hb, h1]; rfl
/-- A walk of plain steps inside a region that draws, where nothing is flagged any more. -/
theorem chk_read {op : Op} (hc : clsOf (isoOf P) op = .read) : chk (isoOf P) (fun _ => True) e h h op := by
  unfold chk; rw [hc]; exact ⟨rfl, fun _ _ => trivial⟩
theorem chk_pure {op : Op} (hc : clsOf (isoOf P) op = .pure) : chk (isoOf P) S e h h' op := by
  unfold chk; rw [hc]; exact trivial
theorem chk_alloc {op : Op} (hc : clsOf (isoOf P) op = .alloc) : chk (isoOf P) S e h h' op := by
  unfold chk; rw [hc]; exact trivial
theorem chk_iso {f : FuncId} {args : Array Operand} {ts : Array TypeId} (hi : isoOf P f = true) : chk (isoOf P) S e h h' (.call ⟨.value (.func f), args, ts⟩) := by
  simp only [chk, clsOf, hi]
  exact trivial
theorem chk_same {op : Op} (hc : clsOf (isoOf P) op = .eff) : chk (isoOf P) S e h h op := by
  unfold chk; rw [hc]; exact fun _ _ _ => rfl
end
end Go.Proofs.Ytfehhihllenjiaa
