/- From the evaluator to the rows of statements. -/
import Derived.Test.YtfehhihllenjiaaC4
import Derived.ProofKit
import Derived.Below
import Derived.Carry
set_option linter.all false
namespace Go.Proofs.Ytfehhihllenjiaa
open Go.ChangeShapes Go.WideShapes Go.ChangeAt Go.RowKit

/-- The evaluator says what the model's call comes to. -/
theorem calls_of_ev {P : Program} (hP : ProgOk P) {f : FuncId} {fn : Func} (hfn : P.funcs[f]? = some fn) (hg : goodFn fn = true) {d : Nat} {args : List Value} {args' : List Value} {μ : Mu} {h h' : Heap} {W : World} {v : Value}
    (he : evF (cfg0 P) d f args h = some (.ok v, h')) (hv : closedV 8 v = true) (hr : Rel μ h W) (hf : Fresh μ h) (ha : VRL μ args args') (hro : ∀ b m, μ b = some m → m.k = .ro) :
    Calls P f args'.toArray W fun e W' => e = .returned v ∧ Below W.heap.size W W' := by
  refine (evF_sound (cfg0_ok hP) d hfn hg μ h W args args' _ h' hr hf ha he).mono fun e W' ⟨μ', st, hrel⟩ => ?_
  cases e with
  | returned v' =>
    refine ⟨by rw [VR.closed_inv 8 v v' hv hrel], st.pres.os, st.pres.tape, st.pres.output, st.pres.size, fun B hB => st.pres.block B hB fun b m hb _ hk => absurd (hro b m hb) hk⟩
  | panicked ch => exact hrel.elim
  | outgrown => exact hrel.elim

/-! what an argument is -/
theorem has_u8 {n : Int} (h : IntKind.u8.has n) : ∃ x : BitVec 8, Value.int .u8 n = w8 x := by
  have h1 : (0 : Int) ≤ n := h.1
  have h2 : n ≤ 255 := h.2
  refine ⟨BitVec.ofNat 8 n.toNat, ?_⟩
  unfold w8
  rw [BitVec.toNat_ofNat, Nat.mod_eq_of_lt (by omega)]
  congr 1
  omega
theorem list_of {α : Type} {f : α → Value} : ∀ (l : List Value), (∀ v ∈ l, ∃ x, v = f x) → ∃ xs : List α, l = xs.map f
  | [], _ => ⟨[], rfl⟩
  | v :: l, h => by
    obtain ⟨x, rfl⟩ := h v (by simp)
    obtain ⟨xs, rfl⟩ := list_of l fun v hv => h v (by simp [hv])
    exact ⟨x :: xs, rfl⟩
theorem mu0_rel (W : World) (h : Heap) : Rel (fun _ => none) h W := ⟨fun b m o hb => (by cases hb), fun b b' m m' hb => (by cases hb)⟩
end Go.Proofs.Ytfehhihllenjiaa
/- Arguments, opened: what they hold, as an abstract heap. -/
set_option linter.all false
namespace Go.Proofs.Ytfehhihllenjiaa
open Go.ChangeShapes Go.WideShapes Go.ChangeAt Go.RowKit

def TyL (P : Program) : Nat → Heap → TypeId → List Value → Prop
  | 0, _, _, _ => False
  | d + 1, h, t, cs => match P.underlying t with
    | some .bool => ∃ b, cs = [.bool b]
    | some (.int k) => ∃ n, cs = [.int k n] ∧ k.has n
    | some .string => ∃ s, cs = [.string s] ∧ s.size ≤ maxLen
    | some (.slice e) => ∃ v n l, cs = [v] ∧ n ≤ maxLen ∧ Sl (P.cellsOf e) h v n l ∧ ∀ i, i < n → TyL P d h e ((l.drop (i * P.cellsOf e)).take (P.cellsOf e))
    | some (.struct fs) => cs.length = P.cellsOf t ∧ ∀ (i : Nat) (f : Field), fs[i]? = some f → TyL P d h f.type ((cs.drop f.offset).take (P.cellsOf f.type))
    | some (.array n e) => cs.length = P.cellsOf t ∧ ∀ i, i < n → TyL P d h e ((cs.drop (i * P.cellsOf e)).take (P.cellsOf e))
    | _ => False
theorem TyL.fr {P : Program} {h h' : Heap} (f : Fr h.nx h h') : ∀ {d : Nat} {t : TypeId} {cs : List Value}, TyL P d h t cs → TyL P d h' t cs
  | 0, _, _, s => s.elim
  | d + 1, t, cs, s => by
    unfold TyL at s ⊢
    split at s
    · exact s
    · exact s
    · exact s
    · obtain ⟨v, n, l, h1, h2, h3, h4⟩ := s
      exact ⟨v, n, l, h1, h2, h3.fr0 f, fun i hi => (h4 i hi).fr f⟩
    · exact ⟨s.1, fun i f' hi => (s.2 i f' hi).fr f⟩
    · exact ⟨s.1, fun i hi => (s.2 i hi).fr f⟩
    · exact s.elim
def offB (P : Program) (t : TypeId) (fs : Array Field) (i : Nat) : Nat := match fs[i]? with
  | some f => f.offset
  | none => P.cellsOf t
def tileB (P : Program) (t : TypeId) (fs : Array Field) : Bool := offB P t fs 0 == 0 && (List.range fs.size).all fun i => match fs[i]? with
  | some f => f.offset + P.cellsOf f.type == offB P t fs (i + 1)
  | none => false
def flatT (P : Program) : Nat → TypeId → Bool
  | 0, _ => false
  | d + 1, t => match P.underlying t with
    | some .bool | some (.int _) | some .string => true
    | some (.slice e) => flatT P d e && decide (0 < P.cellsOf e)
    | some (.struct fs) => tileB P t fs && fs.toList.all fun f => flatT P d f.type
    | some (.array n e) => flatT P d e && n * P.cellsOf e == P.cellsOf t
    | _ => false

structure Opn (w : World) (μ : Mu) (h : Heap) : Prop where
  rel : Rel μ h w
  fresh : Fresh μ h
  ro : ∀ b m, μ b = some m → m.k = .ro
def Opens (w : World) (cs : List Value) (T : Heap → List Value → Prop) : Prop :=
  ∀ μ h, Opn w μ h → ∃ μ' h' acs, Ext μ μ' ∧ Opn w μ' h' ∧ Fr h.nx h h' ∧ VRL μ' acs cs ∧ T h' acs
theorem Opens.imp {w : World} {cs : List Value} {T T' : Heap → List Value → Prop} (o : Opens w cs T) (hi : ∀ h acs, T h acs → T' h acs) : Opens w cs T' := fun μ h ho => by
  obtain ⟨μ', h', acs, h1, h2, h3, h4, h5⟩ := o μ h ho
  exact ⟨μ', h', acs, h1, h2, h3, h4, hi _ _ h5⟩
theorem opens_same {w : World} {cs : List Value} (hc : cs.all (closedV 1) = true) {T : Heap → List Value → Prop} (ht : ∀ h, T h cs) : Opens w cs T :=
  fun μ h ho => ⟨μ, h, cs, .refl _, ho, .refl _ _, VRL.closed (fun v hv => VR.closed 1 v hv) cs hc, ht h⟩
theorem opens_many {w : World} (css : Nat → List Value) (T : Nat → Heap → List Value → Prop) (hm : ∀ i h h' acs, Fr h.nx h h' → T i h acs → T i h' acs) : ∀ n, (∀ i, i < n → Opens w (css i) (T i)) → ∀ μ h, Opn w μ h →
    ∃ (μ' : Mu) (h' : Heap) (ps : Nat → List Value), Ext μ μ' ∧ Opn w μ' h' ∧ Fr h.nx h h' ∧ ∀ i, i < n → VRL μ' (ps i) (css i) ∧ T i h' (ps i)
  | 0, _, μ, h, ho => ⟨μ, h, fun _ => [], .refl _, ho, .refl _ _, fun i hi => absurd hi (Nat.not_lt_zero _)⟩
  | n + 1, hs, μ, h, ho => by
    obtain ⟨μ1, h1, ps, e1, o1, f1, r1⟩ := opens_many css T hm n (fun i hi => hs i (by omega)) μ h ho
    obtain ⟨μ2, h2, acs, e2, o2, f2, v2, t2⟩ := hs n (by omega) μ1 h1 o1
    refine ⟨μ2, h2, fun i => if i = n then acs else ps i, e1.trans e2, o2, f1.trans (f2.le f1.1), fun i hi => ?_⟩
    by_cases h : i = n
    · subst h; simp only [if_true]; exact ⟨v2, t2⟩
    · simp only [h, if_false]
      obtain ⟨a, b⟩ := r1 i (by omega)
      exact ⟨a.mono e2, hm _ _ _ _ f2 b⟩

/-! parts, one behind the other -/
theorem flat_cut (off : Nat → Nat) (cs : List Value) : ∀ n, off 0 = 0 → (∀ i, i < n → off i ≤ off (i + 1)) → ((List.range n).map fun i => (cs.drop (off i)).take (off (i + 1) - off i)).flatten = cs.take (off n)
  | 0, h0, _ => by simp [h0]
  | n + 1, h0, hs => by
    rw [List.range_succ, List.map_append, List.flatten_append, flat_cut off cs n h0 fun i hi => hs i (by omega)]
    have := hs n (by omega)
    simp only [List.map_cons, List.map_nil, List.flatten_cons, List.flatten_nil, List.append_nil]
    rw [← List.take_add]
    congr 1; omega
theorem flat_length (off : Nat → Nat) (ps : Nat → List Value) : ∀ n, off 0 = 0 → (∀ i, i < n → (ps i).length + off i = off (i + 1)) → ((List.range n).map ps).flatten.length = off n
  | 0, h0, _ => by simp [h0]
  | n + 1, h0, hs => by
    rw [List.range_succ, List.map_append, List.flatten_append, List.length_append, flat_length off ps n h0 fun i hi => hs i (by omega)]
    have := hs n (by omega)
    simp; omega
theorem flat_part (off : Nat → Nat) (ps : Nat → List Value) : ∀ n, off 0 = 0 → (∀ i, i < n → (ps i).length + off i = off (i + 1)) → ∀ i, i < n → (((List.range n).map ps).flatten.drop (off i)).take (ps i).length = ps i
  | 0, _, _, i, hi => absurd hi (Nat.not_lt_zero _)
  | n + 1, h0, hs, i, hi => by
    have hl := flat_length off ps n h0 fun i hi => hs i (by omega)
    rw [List.range_succ, List.map_append, List.flatten_append]
    by_cases h : i = n
    · subst h
      rw [List.drop_append_of_le_length (by omega), List.drop_of_length_le (by omega)]
      simp
    · have hlt : i < n := by omega
      have mono : ∀ m, i + 1 ≤ m → m ≤ n → off (i + 1) ≤ off m := by
        intro m hm hmn
        induction m with
        | zero => omega
        | succ m ih =>
          by_cases h : i + 1 = m + 1
          · rw [h]; exact Nat.le_refl _
          · have := hs m (by omega); have := ih (by omega) (by omega); omega
      have h1 := mono n (by omega) (Nat.le_refl _)
      have h2 := hs i (by omega)
      rw [List.drop_append_of_le_length (by omega), List.take_append_of_le_length (by rw [List.length_drop]; omega)]
      exact flat_part off ps n h0 (fun i hi => hs i (by omega)) i hlt
theorem VRL.flat {μ : Mu} (ps css : Nat → List Value) : ∀ n, (∀ i, i < n → VRL μ (ps i) (css i)) → VRL μ ((List.range n).map ps).flatten ((List.range n).map css).flatten
  | 0, _ => .nil
  | n + 1, h => by
    rw [List.range_succ, List.map_append, List.map_append, List.flatten_append, List.flatten_append]
    refine (VRL.flat ps css n fun i hi => h i (by omega)).append ?_
    simpa using h n (by omega)

theorem mapM_get {α β : Type} {f : α → Option β} : ∀ {l : List α} {r : List β}, l.mapM f = some r → ∀ (i : Nat) (x : α), l[i]? = some x → ∃ y, r[i]? = some y ∧ f x = some y
  | [], _, _, i, x, hx => by simp at hx
  | a :: l, r, h, i, x, hx => by
    rw [List.mapM_cons] at h
    cases ha : f a with
    | none => simp [ha] at h
    | some y =>
      cases hl : l.mapM f with
      | none => simp [ha, hl] at h
      | some ys =>
        simp [ha, hl] at h
        subst h
        cases i with
        | zero => simp at hx; subst hx; exact ⟨y, rfl, ha⟩
        | succ i => simp at hx; simpa using mapM_get hl i x hx
theorem mapM_length {α β : Type} {f : α → Option β} : ∀ {l : List α} {r : List β}, l.mapM f = some r → r.length = l.length
  | [], r, h => by simp at h; subst h; rfl
  | a :: l, r, h => by
    rw [List.mapM_cons] at h
    cases ha : f a with
    | none => simp [ha] at h
    | some y =>
      cases hl : l.mapM f with
      | none => simp [ha, hl] at h
      | some ys =>
        simp [ha, hl] at h
        subst h
        simp [mapM_length hl]
theorem cell_spot {w : World} {a : Addr} {v : Value} (h : w.cell? a = some v) : a.spot = none ∧ ∃ arr el fr, w.heap[a.block]? = some (.cells arr el fr) ∧ arr[a.off]? = some v := by
  unfold World.cell? at h
  split at h
  · rename_i c el fr hb
    split at h
    · cases h
    · rename_i hs
      exact ⟨by simpa using hs, c, el, fr, hb, h⟩
  · cases h
theorem add_none (B o n : Nat) : (⟨B, o, none⟩ : Addr).add n = ⟨B, o + n, none⟩ := by unfold Addr.add; split <;> simp_all

/-- What lies behind a slice's address. -/
theorem cells_block {w : World} {base : Nat} {a : Addr} {n sz : Nat} (hn : 0 < n) (hz : 0 < sz) (css : Nat → List Value) (hc : ∀ i, i < n → w.cells? base (a.add (i * sz)) sz = some (css i)) :
    a.spot = none ∧ ∃ arr el fr, w.heap[a.block]? = some (.cells arr el fr) ∧ a.off + n * sz ≤ arr.size ∧ (arr.toList.drop a.off).take (n * sz) = ((List.range n).map css).flatten ∧ ∀ i, i < n → (css i).length = sz := by
  have get : ∀ i j, i < n → j < sz → ∃ v, (css i)[j]? = some v ∧ w.cell? ((a.add (i * sz)).add j) = some v := by
    intro i j hi hj
    have := hc i hi
    unfold World.cells? at this
    split at this
    · exact mapM_get this j j (by simp [hj])
    · cases this
  have len : ∀ i, i < n → (css i).length = sz := by
    intro i hi
    have := hc i hi
    unfold World.cells? at this
    split at this
    · simpa using mapM_length this
    · cases this
  obtain ⟨v0, _, h0⟩ := get 0 0 hn hz
  have e0 : (a.add (0 * sz)).add 0 = a := by unfold Addr.add; simp
  rw [e0] at h0
  obtain ⟨hs, arr, el, fr, hb, hv⟩ := cell_spot h0
  obtain ⟨B, o, sp⟩ := a
  simp only at hs hb hv ⊢
  subst hs
  have cell : ∀ i j, i < n → j < sz → arr[o + (i * sz + j)]? = (css i)[j]? := by
    intro i j hi hj
    obtain ⟨v, h1, h2⟩ := get i j hi hj
    rw [add_none, add_none] at h2
    obtain ⟨_, arr', _, _, hb', hv'⟩ := cell_spot h2
    simp only at hb' hv'
    rw [hb] at hb'
    cases hb'
    rw [h1, ← hv']
    congr 1; omega
  have hsz : o + n * sz ≤ arr.size := by
    have h1 := cell (n - 1) (sz - 1) (by omega) (by omega)
    obtain ⟨v, h2, _⟩ := get (n - 1) (sz - 1) (by omega) (by omega)
    rw [h2] at h1
    have h3 := (Array.getElem?_eq_some_iff.1 h1).1
    have h4 : (n - 1) * sz + sz = n * sz := by rw [← Nat.succ_mul]; congr 1; omega
    omega
  refine ⟨rfl, arr, el, fr, hb, hsz, ?_, len⟩
  have hcut : ∀ i, i < n → ((arr.toList.drop o).drop (i * sz)).take sz = css i := by
    intro i hi
    apply List.ext_getElem?
    intro j
    rw [List.getElem?_take, List.drop_drop, List.getElem?_drop]
    by_cases hj : j < sz
    · rw [if_pos hj, ← cell i j hi hj]; simp; congr 1; omega
    · rw [if_neg hj, List.getElem?_eq_none (by rw [len i hi]; omega)]
  have := flat_cut (fun i => i * sz) (arr.toList.drop o) n (by simp) (fun i hi => Nat.mul_le_mul_right _ (by omega))
  rw [← this]
  congr 1
  apply List.map_congr_left
  intro i hi
  have hi' : i < n := by simpa using hi
  rw [← hcut i hi']
  congr 1
  rw [Nat.add_mul]; omega

theorem opn_row {w : World} {μ : Mu} {h : Heap} (ho : Opn w μ h) {B o : Nat} {arr : Array Value} {el : TypeId} {fr : Nat × Nat} {acs : List Value} (hb : w.heap[B]? = some (.cells arr el fr)) (hsz : o + acs.length ≤ arr.size)
    (hv : VRL μ acs ((arr.toList.drop o).take acs.length)) : Opn w (upd μ h.nx (some ⟨B, o, acs.length, acs.length, 1, .ro⟩)) (newRowH h .ro 1 acs) := by
  have hx : Ext μ (upd μ h.nx (some ⟨B, o, acs.length, acs.length, 1, .ro⟩)) := fun b m hb => by
    have := ho.fresh.lt hb
    rw [upd_other _ _ (by omega)]; exact hb
  refine ⟨⟨?_, ?_⟩, ?_, ?_⟩
  · intro b m ob hm hob
    by_cases e : b = h.nx
    · subst e
      simp at hm; subst hm
      rw [obj_new, if_pos rfl] at hob
      cases hob
      exact ⟨rfl, rfl, rfl, Nat.le_refl _, arr, el, fr, hb, hsz, hv.mono hx, fun hk => absurd rfl hk⟩
    · rw [upd_other _ _ e] at hm
      rw [obj_new, if_neg e] at hob
      exact (ho.rel.obj b m ob hm hob).mono hx
  · intro b b' m m' hm hm' _ _ _ hk
    exfalso
    apply hk
    by_cases e : b = h.nx
    · subst e; simp at hm; subst hm; rfl
    · rw [upd_other _ _ e] at hm; exact ho.ro b m hm
  · intro b hb
    rw [nx_new] at hb
    rw [upd_other _ _ (by omega)]
    exact ho.fresh b (by omega)
  · intro b m hm
    by_cases e : b = h.nx
    · subst e; simp at hm; subst hm; rfl
    · rw [upd_other _ _ e] at hm; exact ho.ro b m hm

theorem open_cells {H : Type} {enc : TypeId × Value → H} {P : Program} {w : World} {base : Nat} {sp : Nat → Bool} {held : Bool} : ∀ (d fuel : Nat) (t : TypeId) (cs : List Value) (x : DataW H × List MemPlace), flatT P d t = true →
    DataW.trod enc P w base sp held fuel t cs = some x → Opens w cs (fun h acs => TyL P d h t acs)
  | 0, _, _, _, _, hf, _ => by simp [flatT] at hf
  | d + 1, 0, _, _, _, _, ht => by simp [DataW.trod] at ht
  | d + 1, fuel + 1, t, cs, x, hf, ht => by
    unfold flatT at hf
    split at hf
    · rename_i hu
      unfold DataW.trod at ht
      simp only [hu] at ht
      split at ht <;> simp_all
      exact opens_same rfl fun h => by unfold TyL; simp [hu]
    · rename_i k hu
      unfold DataW.trod at ht
      simp only [hu] at ht
      split at ht <;> simp_all
      exact opens_same rfl fun h => by
        unfold TyL; simp only [hu]
        have hw := ht.1.2
        simp only [Lit.wf, Bool.and_eq_true, decide_eq_true_eq] at hw
        exact ⟨_, rfl, hw⟩
    · rename_i hu
      unfold DataW.trod at ht
      simp only [hu] at ht
      split at ht <;> simp_all
      exact opens_same rfl fun h => by unfold TyL; simp only [hu]; exact ⟨_, rfl, ht.1⟩
    · rename_i e hu
      simp only [Bool.and_eq_true, decide_eq_true_eq] at hf
      obtain ⟨hfe, hz⟩ := hf
      unfold DataW.trod at ht
      simp only [hu] at ht
      split at ht <;> simp_all
      · exact opens_same rfl fun h => by unfold TyL; simp only [hu]; exact ⟨_, 0, [], rfl, Nat.zero_le _, .nil, fun i hi => absurd hi (Nat.not_lt_zero _)⟩
      · rename_i e a n cap _
        obtain ⟨⟨_, hle, hmax⟩, hb⟩ := ht
        have hall : ∀ i, i < n → ∃ l y, w.cells? base (a.add (i * P.cellsOf e)) (P.cellsOf e) = some l ∧ DataW.trod enc P w base sp held fuel e l = some y := by
          intro i hi
          cases hm : (List.range n).mapM (fun i => (w.cells? base (a.add (i * P.cellsOf e)) (P.cellsOf e)).bind (DataW.trod enc P w base sp held fuel e)) with
          | none => rw [hm] at hb; simp at hb
          | some ys =>
            obtain ⟨y, _, h2⟩ := mapM_get hm i i (by simp [hi])
            cases hl : w.cells? base (a.add (i * P.cellsOf e)) (P.cellsOf e) with
            | none => rw [hl] at h2; simp at h2
            | some l => rw [hl] at h2; exact ⟨l, y, rfl, h2⟩
        by_cases h0 : n = 0
        · subst h0
          intro μ h ho
          refine ⟨μ, h, [anyS], .refl _, ho, .refl _ _, .single (.emptyAny _ _), ?_⟩
          unfold TyL; simp only [hu]; exact ⟨_, 0, [], rfl, Nat.zero_le _, .any, fun i hi => absurd hi (Nat.not_lt_zero _)⟩
        · have hcs : ∀ i, i < n → w.cells? base (a.add (i * P.cellsOf e)) (P.cellsOf e) = some ((w.cells? base (a.add (i * P.cellsOf e)) (P.cellsOf e)).getD []) := fun i hi => by
            obtain ⟨l, y, h1, _⟩ := hall i hi
            rw [h1]; rfl
          obtain ⟨hs, arr, el, fr, hblk, hsz, hflat, hlen⟩ := cells_block (by omega) hz (fun i => (w.cells? base (a.add (i * P.cellsOf e)) (P.cellsOf e)).getD []) hcs
          obtain ⟨B, o, sp'⟩ := a
          simp only at hs hblk hsz hflat
          subst hs
          intro μ h ho
          obtain ⟨μ1, h1, ps, e1, o1, f1, r1⟩ := opens_many (w := w) (fun i => (w.cells? base ((⟨B, o, none⟩ : Addr).add (i * P.cellsOf e)) (P.cellsOf e)).getD []) (fun _ h acs => TyL P d h e acs) (fun _ _ _ _ f t => t.fr f) n (fun i hi => by
            obtain ⟨l, y, h1, h2⟩ := hall i hi
            rw [h1]
            exact open_cells d fuel e l y hfe h2) μ h ho
          have hpl : ∀ i, i < n → (ps i).length + i * P.cellsOf e = (i + 1) * P.cellsOf e := fun i hi => by
            have := (r1 i hi).1.length
            rw [hlen i hi] at this
            rw [this, Nat.add_mul]; omega
          have hal := flat_length (fun i => i * P.cellsOf e) ps n (by simp) hpl
          have hvr := VRL.flat ps _ n (fun i hi => (r1 i hi).1)
          rw [← hflat, ← hal] at hvr
          have o2 := opn_row o1 hblk (by rw [hal]; exact hsz) hvr
          refine ⟨_, _, [.slice (some ⟨h1.nx, 0, none⟩) n cap], e1.trans fun b m hb => ?_, o2, (Fr.new f1 f1.1 _ _ _), .single (.slice (upd_same _ _ _) (.inl rfl)), ?_⟩
          · have := o1.fresh.lt hb
            rw [upd_other _ _ (by omega)]; exact hb
          · unfold TyL; simp only [hu]
            refine ⟨_, n, ((List.range n).map ps).flatten, rfl, by omega, .mk (k := .ro) (es' := 1) (cs' := ((List.range n).map ps).flatten) (by rw [nx_new]; omega) (by rw [obj_new, if_pos rfl]) (fun h => by cases h) hle (by rw [hal]; omega) (by rw [List.drop_zero, List.take_of_length_le (by rw [hal]; exact Nat.le_refl _)]), fun i hi => ?_⟩
            have h2 := flat_part (fun i => i * P.cellsOf e) ps n (by simp) hpl i hi
            have h3 := hpl i hi
            rw [Nat.add_mul] at h3
            rw [show (ps i).length = P.cellsOf e by omega] at h2
            rw [h2]
            exact (r1 i hi).2.fr (Fr.new (.refl _ _) (Nat.le_refl _) _ _ _)
    · rename_i fs hu
      simp only [Bool.and_eq_true] at hf
      obtain ⟨htile, hfs⟩ := hf
      unfold tileB at htile
      simp only [Bool.and_eq_true, beq_iff_eq, List.all_eq_true, List.mem_range] at htile
      obtain ⟨hz0, htile⟩ := htile
      unfold DataW.trod at ht
      simp only [hu] at ht
      split at ht
      case isFalse => cases ht
      rename_i hlen
      have hfield : ∀ (i : Nat) (f : Field), fs[i]? = some f → ∃ y, DataW.trod enc P w base sp held fuel f.type ((cs.drop f.offset).take (P.cellsOf f.type)) = some y := by
        intro i f hi
        cases hm : fs.toList.mapM (fun f => DataW.trod enc P w base sp held fuel f.type ((cs.drop f.offset).take (P.cellsOf f.type))) with
        | none => rw [hm] at ht; simp at ht
        | some ys =>
          obtain ⟨y, _, h2⟩ := mapM_get hm i f (by simpa using hi)
          exact ⟨y, h2⟩
      have hoff : ∀ (i : Nat) (f : Field), fs[i]? = some f → f.offset = offB P t fs i ∧ f.offset + P.cellsOf f.type = offB P t fs (i + 1) ∧ flatT P d f.type = true := by
        intro i f hi
        have hlt := (Array.getElem?_eq_some_iff.1 hi).1
        have h1 := htile i hlt
        rw [hi] at h1
        refine ⟨by unfold offB; rw [hi], by simpa using h1, ?_⟩
        have := List.all_eq_true.1 hfs f (by
          have := (Array.getElem?_eq_some_iff.1 hi).2
          rw [← this]; simp)
        exact this
      have hstep : ∀ i, i < fs.size → ∃ f, fs[i]? = some f := fun i hi => ⟨fs[i], by simp [hi]⟩
      intro μ h ho
      obtain ⟨μ1, h1, ps, e1, o1, f1, r1⟩ := opens_many (w := w) (fun i => (cs.drop (offB P t fs i)).take (offB P t fs (i + 1) - offB P t fs i)) (fun i h acs => ∀ f, fs[i]? = some f → TyL P d h f.type acs) (fun _ _ _ _ f t f' hf' => (t f' hf').fr f) fs.size (fun i hi => by
        obtain ⟨f, hf⟩ := hstep i hi
        obtain ⟨y, hy⟩ := hfield i f hf
        obtain ⟨a1, a2, a3⟩ := hoff i f hf
        rw [← a1, ← a2, Nat.add_sub_cancel_left]
        refine (open_cells d fuel f.type _ y a3 hy).imp fun h acs ht f' hf' => ?_
        rw [hf] at hf'
        cases hf'
        exact ht) μ h ho
      have hmono : ∀ i, i < fs.size → offB P t fs i ≤ offB P t fs (i + 1) := fun i hi => by
        obtain ⟨f, hf⟩ := hstep i hi
        obtain ⟨a1, a2, _⟩ := hoff i f hf
        omega
      have hend : offB P t fs fs.size = P.cellsOf t := by unfold offB; simp
      have hmax : ∀ m, m ≤ fs.size → ∀ i, i ≤ m → offB P t fs i ≤ offB P t fs m := by
        intro m
        induction m with
        | zero => intro _ i hi; have : i = 0 := by omega
                  subst this; exact Nat.le_refl _
        | succ m ih =>
          intro hm i hi
          by_cases h : i = m + 1
          · subst h; exact Nat.le_refl _
          · exact Nat.le_trans (ih (by omega) i (by omega)) (hmono m (by omega))
      have hpl : ∀ i, i < fs.size → (ps i).length + offB P t fs i = offB P t fs (i + 1) := fun i hi => by
        have h2 := (r1 i hi).1.length
        have h3 := hmono i hi
        have h4 := hmax fs.size (Nat.le_refl _) (i + 1) (by omega)
        rw [hend] at h4
        rw [h2, List.length_take, List.length_drop]
        omega
      have hal := flat_length (offB P t fs) ps fs.size hz0 hpl
      rw [hend] at hal
      have hvr := VRL.flat ps _ fs.size (fun i hi => (r1 i hi).1)
      rw [flat_cut (offB P t fs) cs fs.size hz0 hmono, hend, List.take_of_length_le (by omega)] at hvr
      refine ⟨_, _, _, e1, o1, f1, hvr, ?_⟩
      unfold TyL; simp only [hu]
      refine ⟨hal, fun i f hi => ?_⟩
      have hlt := (Array.getElem?_eq_some_iff.1 hi).1
      obtain ⟨a1, a2, _⟩ := hoff i f hi
      have h2 := flat_part (offB P t fs) ps fs.size hz0 hpl i hlt
      have h3 := hpl i hlt
      rw [show (ps i).length = P.cellsOf f.type by omega, ← a1] at h2
      rw [h2]
      exact (r1 i hlt).2 f hi
    · rename_i n e hu
      simp only [Bool.and_eq_true, beq_iff_eq] at hf
      obtain ⟨hfe, hn⟩ := hf
      unfold DataW.trod at ht
      simp only [hu] at ht
      split at ht
      case isFalse => cases ht
      rename_i hlen
      intro μ h ho
      obtain ⟨μ1, h1, ps, e1, o1, f1, r1⟩ := opens_many (w := w) (fun i => (cs.drop (i * P.cellsOf e)).take ((i + 1) * P.cellsOf e - i * P.cellsOf e)) (fun _ h acs => TyL P d h e acs) (fun _ _ _ _ f t => t.fr f) n (fun i hi => by
        cases hm : (List.range n).mapM (fun i => DataW.trod enc P w base sp held fuel e ((cs.drop (i * P.cellsOf e)).take (P.cellsOf e))) with
        | none => rw [hm] at ht; simp at ht
        | some ys =>
          obtain ⟨y, _, h2⟩ := mapM_get hm i i (by simp [hi])
          rw [Nat.add_mul, Nat.one_mul, Nat.add_sub_cancel_left]
          exact open_cells d fuel e _ y hfe h2) μ h ho
      have hpl : ∀ i, i < n → (ps i).length + i * P.cellsOf e = (i + 1) * P.cellsOf e := fun i hi => by
        have h2 := (r1 i hi).1.length
        have h4 := Nat.mul_le_mul_right (P.cellsOf e) (show i + 1 ≤ n by omega)
        rw [h2, List.length_take, List.length_drop]
        rw [Nat.add_mul] at h4 ⊢
        omega
      have hal := flat_length (fun i => i * P.cellsOf e) ps n (by simp) hpl
      have hvr := VRL.flat ps _ n (fun i hi => (r1 i hi).1)
      rw [flat_cut (fun i => i * P.cellsOf e) cs n (by simp) (fun i hi => Nat.mul_le_mul_right _ (by omega)), List.take_of_length_le (by omega)] at hvr
      refine ⟨_, _, _, e1, o1, f1, hvr, ?_⟩
      unfold TyL; simp only [hu]
      refine ⟨by rw [hal, hn], fun i hi => ?_⟩
      have h2 := flat_part (fun i => i * P.cellsOf e) ps n (by simp) hpl i hi
      have h3 := hpl i hi
      rw [Nat.add_mul] at h3
      rw [show (ps i).length = P.cellsOf e by omega] at h2
      rw [h2]
      exact (r1 i hi).2
    · cases hf

/-- What an argument holds. -/
def TyV (P : Program) (d : Nat) (h : Heap) (t : TypeId) (v : Value) : Prop :=
  match P.underlying t with
  | some (.struct _) | some (.array _ _) => ∃ cs, v = .agg ⟨cs⟩ ∧ TyL P d h t cs
  | _ => TyL P d h t [v]
theorem TyV.fr {P : Program} {h h' : Heap} (f : Fr h.nx h h') {d : Nat} {t : TypeId} {v : Value} (s : TyV P d h t v) : TyV P d h' t v := by
  unfold TyV at s ⊢
  split at s
  · obtain ⟨cs, h1, h2⟩ := s; exact ⟨cs, h1, h2.fr f⟩
  · obtain ⟨cs, h1, h2⟩ := s; exact ⟨cs, h1, h2.fr f⟩
  · exact TyL.fr f s
theorem open_arg {H : Type} {enc : TypeId × Value → H} {P : Program} {w : World} {base base' : Nat} {r : Reach} {sp : Nat → Bool} {held : Bool} {d : Nat} {t : TypeId} {v : Value} {x : DataW H} {p : List MemPlace} (hf : flatT P d t = true)
    (hv : Value.okWide P w r base' t v) (ht : DataW.Trod enc P w base sp held t v x p) {μ : Mu} {h : Heap} (ho : Opn w μ h) :
    ∃ μ' h' av, Ext μ μ' ∧ Opn w μ' h' ∧ Fr h.nx h h' ∧ VR μ' av v ∧ TyV P d h' t av := by
  obtain ⟨fuel, ht⟩ := ht
  obtain ⟨μ', h', acs, e1, o1, f1, v1, t1⟩ := open_cells d fuel t _ _ hf ht μ h ho
  have agg : (∃ cs, v = .agg cs) → ∃ av, VR μ' av v ∧ ∃ cs, av = .agg ⟨cs⟩ ∧ TyL P d h' t cs := by
    rintro ⟨cs, rfl⟩
    exact ⟨.agg ⟨acs⟩, .agg v1, acs, rfl, t1⟩
  have one : v.cells = #[v] → ∃ av, VR μ' av v ∧ TyL P d h' t [av] := by
    intro hc
    rw [hc] at v1
    match acs, v1, t1 with
    | [av], .cons hav .nil, t1 => exact ⟨av, hav, t1⟩
  unfold Value.okWide at hv
  unfold TyV
  cases hu : P.underlying t with
  | none => rw [hu] at hv; unfold flatT at hf; split at hf <;> simp_all
  | some td =>
    rw [hu] at hv
    have scalar : Cell.okWide P w r base' t v → (∀ fs, td ≠ .struct fs) → (∀ n e, td ≠ .array n e) → v.cells = #[v] := by
      intro hv h1 h2
      unfold flatT at hf
      split at hf
      · cases hf
      · rw [hu] at hf
        unfold Cell.okWide Cell.ok at hv
        rw [hu] at hv
        cases td <;> first
          | exact absurd rfl (h1 _)
          | exact absurd rfl (h2 _ _)
          | (exfalso; revert hf; simp; done)
          | (cases v <;> first | rfl | (exfalso; exact hv) | (exfalso; revert hv; simp; done))
    cases td with
    | struct fs =>
      obtain ⟨cs, hcs, _⟩ := hv
      obtain ⟨av, a1, a2⟩ := agg ⟨cs, hcs⟩
      exact ⟨μ', h', av, e1, o1, f1, a1, a2⟩
    | array n e =>
      obtain ⟨cs, hcs, _⟩ := hv
      obtain ⟨av, a1, a2⟩ := agg ⟨cs, hcs⟩
      exact ⟨μ', h', av, e1, o1, f1, a1, a2⟩
    | _ =>
      obtain ⟨av, a1, a2⟩ := one (scalar hv (fun _ h => nomatch h) (fun _ _ h => nomatch h))
      exact ⟨μ', h', av, e1, o1, f1, a1, a2⟩

def TyVs (P : Program) (d : Nat) (h : Heap) : List TypeId → List Value → Prop
  | [], [] => True
  | t :: ts, v :: vs => TyV P d h t v ∧ TyVs P d h ts vs
  | _, _ => False
theorem TyVs.fr {P : Program} {h h' : Heap} (f : Fr h.nx h h') {d : Nat} : ∀ {ts : List TypeId} {vs : List Value}, TyVs P d h ts vs → TyVs P d h' ts vs
  | [], [], _ => trivial
  | _ :: _, _ :: _, s => ⟨s.1.fr f, TyVs.fr f s.2⟩
  | [], _ :: _, s => s.elim
  | _ :: _, [], s => s.elim
theorem open_args {H : Type} {enc : TypeId × Value → H} {P : Program} {w : World} {base base' : Nat} {r : Reach} {sp : Nat → Bool} {held : Bool} {d : Nat} : ∀ (ts : List TypeId) (vs : List Value) (ds : List (DataW H)) (p : List MemPlace), ts.all (flatT P d) = true →
    (∀ (j : Nat) t v, ts[j]? = some t → vs[j]? = some v → Value.okWide P w r base' t v) → DataW.TrodAll enc P w base sp held ts vs ds p → ∀ {μ : Mu} {h : Heap}, Opn w μ h →
    ∃ μ' h' avs, Ext μ μ' ∧ Opn w μ' h' ∧ Fr h.nx h h' ∧ VRL μ' avs vs ∧ TyVs P d h' ts avs
  | [], [], _, _, _, _, _, μ, h, ho => ⟨μ, h, [], .refl _, ho, .refl _ _, .nil, trivial⟩
  | t :: ts, v :: vs, x :: ds, p, hf, hv, ht, μ, h, ho => by
    simp only [List.all_cons, Bool.and_eq_true] at hf
    obtain ⟨q1, q2, h1, h2, _⟩ := ht
    obtain ⟨μ1, h1', av, e1, o1, f1, v1, t1⟩ := open_arg hf.1 (hv 0 t v rfl rfl) h1 ho
    obtain ⟨μ2, h2', avs, e2, o2, f2, v2, t2⟩ := open_args ts vs ds q2 hf.2 (fun j t v a b => hv (j + 1) t v (by simpa using a) (by simpa using b)) h2 o1
    exact ⟨μ2, h2', av :: avs, e1.trans e2, o2, f1.trans (f2.le f1.1), .cons (v1.mono e2) v2, t1.fr f2, t2⟩
  | [], _ :: _, _, _, _, _, ht, _, _, _ => by simp [DataW.TrodAll] at ht
  | _ :: _, [], _, _, _, _, ht, _, _, _ => by simp [DataW.TrodAll] at ht
  | _ :: _, _ :: _, [], _, _, _, ht, _, _, _ => by simp [DataW.TrodAll] at ht
theorem opn0 (w : World) : Opn w (fun _ => none) ⟨fun _ => none, 0⟩ := ⟨mu0_rel _ _, fun _ _ => rfl, fun _ _ hb => by cases hb⟩
theorem calls_of_law {H : Type} {enc : TypeId × Value → H} {P : Program} (hP : ProgOk P) {f : FuncId} {fn : Func} (hfn : P.funcs[f]? = some fn) (hg : goodFn fn = true) {d : Nat} {ts : List TypeId} (hts : ts.all (flatT P 8) = true)
    (law : ∀ h avs, TyVs P 8 h ts avs → ∃ v h', evF (cfg0 P) d f avs h = some (.ok v, h') ∧ v = .bool true) {W : World} {args : Array Value} {base base' : Nat} {r : Reach} {sp : Nat → Bool} {held : Bool} {ds : List (DataW H)} {p : List MemPlace}
    (hval : ∀ (j : Nat) t v, ts[j]? = some t → args.toList[j]? = some v → Value.okWide P W r base' t v) (hA : DataW.TrodAll enc P W base sp held ts args.toList ds p) :
    Calls P f args W fun e W' => e = .returned (.bool true) ∧ Below W.heap.size W W' := by
  obtain ⟨μ, h, avs, _, o, _, vr, ty⟩ := open_args ts args.toList ds p hts hval hA (opn0 W)
  obtain ⟨v, h', he, rfl⟩ := law h avs ty
  have := calls_of_ev hP hfn hg he rfl o.rel o.fresh vr o.ro
  simpa using this
/-! what arguments are -/
section
variable {P : Program} {h : Heap} {d : Nat} {t el : TypeId} {v : Value} {cs : List Value} {n : Nat}
theorem ty_u8 (hu : P.underlying t = some (.int .u8)) (s : TyL P (d + 1) h t cs) : ∃ x, cs = [w8 x] := by
  unfold TyL at s; rw [hu] at s
  obtain ⟨n, rfl, hn⟩ := s
  obtain ⟨x, hx⟩ := has_u8 hn
  exact ⟨x, by rw [hx]⟩
theorem list_of_parts {α : Type} {f : α → Value} (sz1 : ∀ i, i < n → ∃ x, (cs.drop (i * 1)).take 1 = [f x]) (hl : cs.length = n) : ∃ xs : List α, xs.length = n ∧ cs = xs.map f := by
  obtain ⟨xs, hxs⟩ := list_of (f := f) cs fun v hv => by
    obtain ⟨i, hi, hiv⟩ := List.getElem_of_mem hv
    obtain ⟨x, hx⟩ := sz1 i (by omega)
    refine ⟨x, ?_⟩
    rw [Nat.mul_one] at hx
    have h1 : ((cs.drop i).take 1)[0]? = some (f x) := by rw [hx]; rfl
    rw [List.getElem?_take, if_pos (by omega), List.getElem?_drop, Nat.add_zero, List.getElem?_eq_getElem hi] at h1
    simp only [Option.some.injEq] at h1
    rw [← hiv, h1]
  refine ⟨xs, ?_, hxs⟩
  have := congrArg List.length hxs
  simp at this; omega
theorem ty_arr8 (hu : P.underlying t = some (.array n el)) (he : P.underlying el = some (.int .u8)) (hc : P.cellsOf el = 1) (hn : P.cellsOf t = n) (s : TyL P (d + 2) h t cs) : ∃ xs : List (BitVec 8), xs.length = n ∧ cs = b8 xs := by
  unfold TyL at s; rw [hu] at s
  exact list_of_parts (f := w8) (fun i hi => by
    have := s.2 i hi
    rw [hc] at this
    exact ty_u8 he this) (by rw [← hn]; exact s.1)
theorem ty_bytes (hu : P.underlying t = some (.slice el)) (he : P.underlying el = some (.int .u8)) (hc : P.cellsOf el = 1) (s : TyL P (d + 2) h t cs) : ∃ v xs, cs = [v] ∧ By h v xs ∧ xs.length ≤ maxLen := by
  unfold TyL at s; rw [hu] at s
  obtain ⟨v, n, l, h1, h2, h3, h4⟩ := s
  rw [hc] at h3 h4
  have hl := h3.length
  obtain ⟨xs, hx1, hx2⟩ := list_of_parts (f := w8) (n := n) (cs := l) (fun i hi => ty_u8 he (h4 i hi)) (by omega)
  refine ⟨v, xs, h1, ?_, by omega⟩
  unfold By
  rw [hx1]
  have : l = b8 xs := hx2
  rw [← this]
  exact h3
theorem tyv_agg {td : TypeDesc} (hu : P.underlying t = some td) (hg : isAggD td = true) (s : TyV P d h t v) : ∃ cs, v = .agg ⟨cs⟩ ∧ TyL P d h t cs := by
  unfold TyV at s
  rw [hu] at s
  cases td <;> first | exact s | cases hg
theorem tyv_one {td : TypeDesc} (hu : P.underlying t = some td) (hg : isAggD td = false) (s : TyV P d h t v) : TyL P d h t [v] := by
  unfold TyV at s
  rw [hu] at s
  cases td <;> first | exact s | cases hg
end
end Go.Proofs.Ytfehhihllenjiaa
