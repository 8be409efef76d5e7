/- Reading, writing and making memory: what each does to the relation. -/
import Derived.Test.YtfehhihllenjiaaA
set_option linter.all false
namespace Go.Proofs.Ytfehhihllenjiaa

def setAt : List Value → Nat → List Value → List Value
  | cs, _, [] => cs
  | cs, i, v :: vs => setAt (cs.set i v) (i + 1) vs
@[simp] theorem setAt_nil (cs : List Value) (i : Nat) : setAt cs i [] = cs := rfl
@[simp] theorem setAt_one (cs : List Value) (i : Nat) (v : Value) : setAt cs i [v] = cs.set i v := rfl
@[simp] theorem setAt_length : ∀ (vs cs : List Value) (i : Nat), (setAt cs i vs).length = cs.length
  | [], _, _ => rfl
  | v :: vs, cs, i => by simp [setAt, setAt_length vs]

def Heap.push (h : Heap) (o : AObj) : Heap := ⟨upd h.obj h.nx (some o), h.nx + 1⟩
def Heap.put (h : Heap) (b : Nat) (o : Option AObj) : Heap := ⟨upd h.obj b o, h.nx⟩
def _root_.Go.World.setBlk (w : World) (B : Nat) (o : Obj) : World := { w with heap := w.heap.setIfInBounds B o }

theorem run_loadCells_row {P : Program} {w : World} {B o n : Nat} {arr : Array Value} {el : TypeId} {fr : Nat × Nat} (hb : w.heap[B]? = some (.cells arr el fr)) (hn : o + n ≤ arr.size) :
    (loadCells ⟨B, o, none⟩ n).run P w = .ok ((arr.toList.drop o).take n).toArray w := by
  have hlen : ((arr.toList.drop o).take n).length = n := by simp; omega
  have h := run_loadCells_list (P := P) w ⟨B, o, none⟩ ((arr.toList.drop o).take n) (fun j v hj => by
    have hadd : (⟨B, o, none⟩ : Addr).add j = ⟨B, o + j, none⟩ := by unfold Addr.add; split <;> simp_all
    rw [hadd]
    have hjn : j < n := by
      have := (List.getElem?_eq_some_iff.1 hj).1
      simp at this; omega
    simp only [List.getElem?_take, hjn, if_true, List.getElem?_drop] at hj
    simpa [World.cell?, hb] using hj)
  rwa [hlen] at h

theorem run_load_row {P : Program} {w : World} {B o : Nat} {arr : Array Value} {el : TypeId} {fr : Nat × Nat} {v : Value} (hb : w.heap[B]? = some (.cells arr el fr)) (hv : arr[o]? = some v) :
    (load ⟨B, o, none⟩).run P w = .ok v w := by
  simp [run_load, World.cell?, hb, hv]

theorem setCell_eq_setBlk {w : World} {B o : Nat} {arr : Array Value} {el : TypeId} {fr : Nat × Nat} (hb : w.heap[B]? = some (.cells arr el fr)) (v : Value) :
    w.setCell ⟨B, o, none⟩ v = w.setBlk B (.cells (arr.setIfInBounds o v) el fr) := by
  have hlt : B < w.heap.size := (Array.getElem?_eq_some_iff.1 hb).1
  unfold World.setCell World.setBlk
  congr 1
  apply Array.ext_getElem?
  intro i
  by_cases hi : i = B
  · subst hi
    have he : w.heap[i] = .cells arr el fr := (Array.getElem?_eq_some_iff.1 hb).2
    rw [Array.getElem?_modify, if_pos rfl, Array.getElem?_setIfInBounds_self_of_lt hlt, hb]
    simp
  · rw [Array.getElem?_modify, if_neg (Ne.symm hi), Array.getElem?_setIfInBounds_ne (Ne.symm hi)]

theorem setBlk_get {w : World} {B : Nat} {o x : Obj} (hb : w.heap[B]? = some x) : (w.setBlk B o).heap[B]? = some o := by
  have hlt : B < w.heap.size := (Array.getElem?_eq_some_iff.1 hb).1
  simp [World.setBlk, hlt]
theorem setBlk_other {w : World} {B C : Nat} {o : Obj} (h : C ≠ B) : (w.setBlk B o).heap[C]? = w.heap[C]? := by
  simp [World.setBlk, Array.getElem?_setIfInBounds_ne (Ne.symm h)]
theorem setBlk_setBlk {w : World} {B : Nat} {o o' : Obj} : (w.setBlk B o).setBlk B o' = w.setBlk B o' := by
  simp [World.setBlk]
theorem setBlk_same {w : World} {B : Nat} {o : Obj} (hb : w.heap[B]? = some o) : w.setBlk B o = w := by
  have hlt : B < w.heap.size := (Array.getElem?_eq_some_iff.1 hb).1
  have he : w.heap[B] = o := (Array.getElem?_eq_some_iff.1 hb).2
  unfold World.setBlk
  have : w.heap.setIfInBounds B o = w.heap := by
    apply Array.ext_getElem?
    intro i
    by_cases hi : i = B
    · subst hi; rw [Array.getElem?_setIfInBounds_self_of_lt hlt, hb]
    · rw [Array.getElem?_setIfInBounds_ne (Ne.symm hi)]
  rw [this]

theorem run_storeCells_row {P : Program} {B o : Nat} {el : TypeId} {fr : Nat × Nat} : ∀ (vs : List Value) (i : Nat) (arr : Array Value) (w : World), w.heap[B]? = some (.cells arr el fr) → o + i + vs.length ≤ arr.size →
    (∀ v ∈ vs, v.oneCell' = true) → (∀ j, j < arr.size → ¬ (fr.1 ≤ j ∧ j < fr.2)) →
    (storeCells ⟨B, o, none⟩ vs i).run P w = .ok () (w.setBlk B (.cells (setAt arr.toList (o + i) vs).toArray el fr))
  | [], i, arr, w, hb, _, _, _ => by simp [storeCells, setAt, setBlk_same hb]
  | v :: vs, i, arr, w, hb, hn, h1, hf => by
    have hadd : (⟨B, o, none⟩ : Addr).add i = ⟨B, o + i, none⟩ := by unfold Addr.add; split <;> simp_all
    have hlt : o + i < arr.size := by simp at hn; omega
    have hfz : w.frozen? ⟨B, o + i, none⟩ = false := by
      have := hf (o + i) hlt
      simp only [World.frozen?, hb]
      simpa using this
    have hst : (store ((⟨B, o, none⟩ : Addr).add i) v).run P w = .ok () (w.setBlk B (.cells (arr.setIfInBounds (o + i) v) el fr)) := by
      rw [hadd, run_store P w _ v _ (h1 v (by simp)), ← setCell_eq_setBlk hb]
      simp [World.cell?, hb, hlt, hfz]
    have ih := run_storeCells_row (P := P) (o := o) vs (i + 1) (arr.setIfInBounds (o + i) v) (w.setBlk B (.cells (arr.setIfInBounds (o + i) v) el fr)) (setBlk_get hb)
      (by simp at hn ⊢; omega) (fun x hx => h1 x (by simp [hx])) (by simpa using hf)
    simp only [storeCells, Sem.run_bind, hst, Result.andThen_ok, ih, setBlk_setBlk, setAt]
    rw [show o + (i + 1) = o + i + 1 by omega, Array.toList_setIfInBounds]

theorem VRL.setAt {μ : Mu} : ∀ {vs vs' : List Value} {cs cs' : List Value} (i : Nat), VRL μ cs cs' → VRL μ vs vs' → VRL μ (setAt cs i vs) (setAt cs' i vs')
  | _, _, _, _, i, hc, .nil => hc
  | _, _, _, _, i, hc, .cons hv t => VRL.setAt (i + 1) (VRL.set hv i hc) t

/-- A store in a window of a list. -/
theorem setAt_window : ∀ (vs arr : List Value) (o i len : Nat), ((setAt arr (o + i) vs).drop o).take len = setAt ((arr.drop o).take len) i vs
  | [], _, _, _, _ => rfl
  | v :: vs, arr, o, i, len => by
    have := setAt_window vs (arr.set (o + i) v) o (i + 1) len
    simp only [setAt]
    rw [show o + i + 1 = o + (i + 1) by omega, this]
    congr 1
    apply List.ext_getElem?
    intro j
    simp only [List.getElem?_take, List.getElem?_drop, List.getElem?_set, List.length_take, List.length_drop]
    by_cases hj : j < len
    · by_cases hij : i = j
      · subst hij
        by_cases hl : o + i < arr.length
        · have h2 : i < min len (arr.length - o) := by omega
          simp [hj, hl, h2]
        · have h2 : ¬ i < min len (arr.length - o) := by omega
          have h3 : arr.length ≤ o + i := by omega
          simp [hj, hl, h2]
      · have : ¬ o + i = o + j := by omega
        simp [hj, hij, this]
    · have h2 : ¬ j < min len (arr.length - o) := by omega
      by_cases hij : i = j
      · subst hij; simp [hj]; omega
      · simp [hj, hij]

theorem ObjRel.of_heap {μ : Mu} {m : Loc} {w w' : World} {o : AObj} (hb : w'.heap[m.B]? = w.heap[m.B]?) (h : ObjRel μ m w o) : ObjRel μ m w' o := by
  cases o with
  | row k es cs => obtain ⟨a, b, c, d, arr, el, fr, e, r⟩ := h; exact ⟨a, b, c, d, arr, el, fr, hb.trans e, r⟩
  | loop L => obtain ⟨a, r, e, q⟩ := h; exact ⟨a, r, hb.trans e, q⟩
theorem ObjRel.mono {μ μ' : Mu} (hx : Ext μ μ') {m : Loc} {w : World} {o : AObj} (h : ObjRel μ m w o) : ObjRel μ' m w o := by
  cases o with
  | row k es cs => obtain ⟨a, b, c, d, arr, el, fr, e, f, g, i⟩ := h; exact ⟨a, b, c, d, arr, el, fr, e, f, g.mono hx, i⟩
  | loop L => obtain ⟨a, r, e, f, g, i, j⟩ := h; exact ⟨a, r, e, f, g, i.mono hx, j⟩
theorem ObjRel.lt {μ : Mu} {m : Loc} {w : World} {o : AObj} (h : ObjRel μ m w o) : m.B < w.heap.size := by
  cases o with
  | row k es cs => obtain ⟨_, _, _, _, arr, el, fr, e, _⟩ := h; exact (Array.getElem?_eq_some_iff.1 e).1
  | loop L => obtain ⟨_, r, e, _⟩ := h; exact (Array.getElem?_eq_some_iff.1 e).1
theorem Rel.lt {μ : Mu} {h : Heap} {w : World} (hr : Rel μ h w) {b : Nat} {m : Loc} (hb : μ b = some m) (hl : (h.obj b).isSome = true) : m.B < w.heap.size := by
  obtain ⟨o, ho⟩ := Option.isSome_iff_exists.1 hl
  exact (hr.obj b m o hb ho).lt

/-- A new block. -/
theorem Step.alloc {μ : Mu} {h : Heap} {w : World} (hr : Rel μ h w) (hf : Fresh μ h) (m : Loc) (o : AObj) (ob : Obj) (hB : m.B = w.heap.size)
    (ho : ObjRel (upd μ h.nx (some m)) m (w.alloc ob) o) : Step μ (upd μ h.nx (some m)) h (h.push o) w (w.alloc ob) := by
  have hne : ∀ b m', μ b = some m' → b ≠ h.nx := fun b m' hb e => by have := hf.lt hb; omega
  have hx : Ext μ (upd μ h.nx (some m)) := fun b m' hb => by rw [upd_other _ _ (hne b m' hb)]; exact hb
  have hold : ∀ C, C < w.heap.size → (w.alloc ob).heap[C]? = w.heap[C]? := fun C hC => by
    show (w.heap.push ob)[C]? = _
    rw [Array.getElem?_push, if_neg (by omega)]
  refine ⟨hx, ?_, ?_, ⟨?_, ?_⟩, ?_, Nat.le_succ _, (fun b h1 h2 _ => by
    have h3 : b < h.nx + 1 := h2
    have h4 : b = h.nx := by omega
    subst h4; simp), ⟨rfl, rfl, rfl, by simp, fun B hB' _ => hold B hB'⟩⟩
  · intro b m' hb
    by_cases e : b = h.nx
    · subst e; simp at hb; subst hb; exact .inr ⟨Nat.le_refl _, .inl (by omega)⟩
    · rw [upd_other _ _ e] at hb; exact .inl hb
  · intro b hb hl
    have e : b ≠ h.nx := by omega
    simpa [Heap.push, upd_other _ _ e] using hl
  · intro b m' o' hb hob
    by_cases e : b = h.nx
    · subst e; simp at hb; subst hb; simp [Heap.push] at hob; subst hob; exact ho
    · rw [upd_other _ _ e] at hb
      simp only [Heap.push, upd_other _ _ e] at hob
      have h0 := hr.obj b m' o' hb hob
      exact (h0.of_heap (hold _ h0.lt)).mono hx
  · intro b b' m₁ m₂ hb hb' hl hl' hne' hk
    by_cases e : b = h.nx
    · subst e
      have e' : b' ≠ h.nx := fun x => hne' x.symm
      simp at hb; subst hb
      rw [upd_other _ _ e'] at hb'
      simp only [Heap.push, upd_other _ _ e'] at hl'
      have := hr.lt hb' hl'
      omega
    · rw [upd_other _ _ e] at hb
      simp only [Heap.push, upd_other _ _ e] at hl
      have h1 := hr.lt hb hl
      by_cases e' : b' = h.nx
      · subst e'; simp at hb'; subst hb'; omega
      · rw [upd_other _ _ e'] at hb'
        simp only [Heap.push, upd_other _ _ e'] at hl'
        exact hr.inj b b' m₁ m₂ hb hb' hl hl' hne' hk
  · intro b hb
    have : h.nx + 1 ≤ b := hb
    rw [upd_other _ _ (by omega)]
    exact hf b (by omega)

/-- A block is written. -/
theorem Step.put {μ : Mu} {h : Heap} {w : World} (hr : Rel μ h w) (hf : Fresh μ h) {b : Nat} {m : Loc} (hb : μ b = some m) (hl : (h.obj b).isSome = true) (hk : m.k ≠ .ro) (o : AObj) (ob : Obj)
    (ho : ObjRel μ m (w.setBlk m.B ob) o) : Step μ μ h (h.put b (some o)) w (w.setBlk m.B ob) := by
  have hlt := hf.lt hb
  refine ⟨.refl _, fun _ _ hm => .inl hm, ?_, ⟨?_, ?_⟩, hf, Nat.le_refl _, (fun _ h1 h2 _ => absurd h1 (Nat.not_le.2 h2)), ⟨rfl, rfl, rfl, by simp [World.setBlk], ?_⟩⟩
  · intro b' hb' hl'
    by_cases e : b' = b
    · subst e; exact hl
    · simpa [Heap.put, upd_other _ _ e] using hl'
  · intro b' m' o' hb' hob
    by_cases e : b' = b
    · subst e; rw [hb] at hb'; cases hb'; simp [Heap.put] at hob; subst hob; exact ho
    · simp only [Heap.put, upd_other _ _ e] at hob
      have hne := hr.inj b b' m m' hb hb' hl (by simp [hob]) (Ne.symm e) hk
      exact (hr.obj b' m' o' hb' hob).of_heap (setBlk_other (Ne.symm hne))
  · intro b₁ b₂ m₁ m₂ h1 h2 l1 l2 hne hk1
    have l1' : (h.obj b₁).isSome = true := by
      by_cases e : b₁ = b
      · subst e; exact hl
      · simpa [Heap.put, upd_other _ _ e] using l1
    have l2' : (h.obj b₂).isSome = true := by
      by_cases e : b₂ = b
      · subst e; exact hl
      · simpa [Heap.put, upd_other _ _ e] using l2
    exact hr.inj b₁ b₂ m₁ m₂ h1 h2 l1' l2' hne hk1
  · intro B _ hno
    exact setBlk_other (fun e => hno b m hb hl hk e.symm)

/-- A row is forgotten. -/
theorem Step.kill {μ : Mu} {h : Heap} {w : World} (hr : Rel μ h w) (hf : Fresh μ h) (b : Nat) : Step μ μ h (h.put b none) w w := by
  have hn : ∀ b', ((h.put b none).obj b').isSome = true → b' ≠ b ∧ (h.obj b').isSome = true := fun b' hl => by
    by_cases e : b' = b
    · subst e; simp [Heap.put] at hl
    · exact ⟨e, by simpa [Heap.put, upd_other _ _ e] using hl⟩
  refine ⟨.refl _, fun _ _ hm => .inl hm, fun b' _ hl => (hn b' hl).2, ⟨?_, ?_⟩, hf, Nat.le_refl _, (fun _ h1 h2 _ => absurd h1 (Nat.not_le.2 h2)), .refl _ _ _⟩
  · intro b' m' o' hb' hob
    have e := (hn b' (by simp [hob])).1
    simp only [Heap.put, upd_other _ _ e] at hob
    exact hr.obj b' m' o' hb' hob
  · intro b₁ b₂ m₁ m₂ h1 h2 l1 l2 hne hk1
    exact hr.inj b₁ b₂ m₁ m₂ h1 h2 (hn _ l1).2 (hn _ l2).2 hne hk1

/-- A row that grows in place: the elder id is forgotten, the new one has its block. -/
theorem Step.regrow {μ : Mu} {h : Heap} {w : World} (hr : Rel μ h w) (hf : Fresh μ h) {b : Nat} {m : Loc} (hb : μ b = some m) (hl : (h.obj b).isSome = true) (hk : m.k ≠ .ro) (m' : Loc) (hB : m'.B = m.B) (o : AObj) (ob : Obj)
    (ho : ObjRel (upd μ h.nx (some m')) m' (w.setBlk m.B ob) o) : Step μ (upd μ h.nx (some m')) h ((h.put b none).push o) w (w.setBlk m.B ob) := by
  have hne : ∀ b m', μ b = some m' → b ≠ h.nx := fun b m' hb e => by have := hf.lt hb; omega
  have hx : Ext μ (upd μ h.nx (some m')) := fun b m' hb => by rw [upd_other _ _ (hne b m' hb)]; exact hb
  have hlt := hf.lt hb
  have hobj : ∀ c, c ≠ h.nx → c ≠ b → ((h.put b none).push o).obj c = h.obj c := fun c h1 h2 => by
    simp [Heap.push, Heap.put, upd_other _ _ h1, upd_other _ _ h2]
  have hobjn : ((h.put b none).push o).obj h.nx = some o := by simp [Heap.push, Heap.put]
  have hobjb : ((h.put b none).push o).obj b = none := by
    simp [Heap.push, Heap.put, upd_other _ _ (show b ≠ h.nx by omega)]
  have hlive : ∀ c, c ≠ h.nx → (((h.put b none).push o).obj c).isSome = true → c ≠ b ∧ (h.obj c).isSome = true := fun c h1 h2 => by
    have e : c ≠ b := fun e => by subst e; rw [hobjb] at h2; simp at h2
    exact ⟨e, by rw [← hobj c h1 e]; exact h2⟩
  refine ⟨hx, ?_, ?_, ⟨?_, ?_⟩, ?_, Nat.le_succ _, (fun b h1 h2 _ => by
    have h3 : b < h.nx + 1 := h2
    have h4 : b = h.nx := by omega
    subst h4; simp), ⟨rfl, rfl, rfl, by simp [World.setBlk], ?_⟩⟩
  · intro c mc hc
    by_cases e : c = h.nx
    · subst e; simp at hc; subst hc; exact .inr ⟨Nat.le_refl _, .inr ⟨b, m, hb, hl, hk, hB.symm⟩⟩
    · rw [upd_other _ _ e] at hc; exact .inl hc
  · exact fun c hc hs => (hlive c (by omega) hs).2
  · intro c mc oc hc hoc
    by_cases e : c = h.nx
    · subst e; simp at hc; subst hc; rw [hobjn] at hoc; cases hoc; exact ho
    · rw [upd_other _ _ e] at hc
      have hcl := hlive c e (by simp [hoc])
      rw [hobj c e hcl.1] at hoc
      have hneB := hr.inj b c m mc hb hc hl hcl.2 (Ne.symm hcl.1) hk
      exact ((hr.obj c mc oc hc hoc).of_heap (setBlk_other (Ne.symm hneB))).mono hx
  · intro c d mc md hc hd lc ld hcd hkc
    by_cases ec : c = h.nx
    · subst ec
      have ed : d ≠ h.nx := Ne.symm hcd
      simp at hc; subst hc
      rw [upd_other _ _ ed] at hd
      have hdl := hlive d ed ld
      rw [hB]
      exact hr.inj b d m md hb hd hl hdl.2 (Ne.symm hdl.1) hk
    · rw [upd_other _ _ ec] at hc
      have hcl := hlive c ec lc
      by_cases ed : d = h.nx
      · subst ed
        simp at hd; subst hd
        rw [hB]
        exact Ne.symm (hr.inj b c m mc hb hc hl hcl.2 (Ne.symm hcl.1) hk)
      · rw [upd_other _ _ ed] at hd
        have hdl := hlive d ed ld
        exact hr.inj c d mc md hc hd hcl.2 hdl.2 hcd hkc
  · intro c hc
    have : h.nx + 1 ≤ c := hc
    rw [upd_other _ _ (by omega)]
    exact hf c (by omega)
  · intro B _ hno
    exact setBlk_other (fun e => hno b m hb hl hk e.symm)

/-- The count of draws alone turns. -/
theorem Step.heap_eq {μ : Mu} {h : Heap} {w w' : World} (hr : Rel μ h w) (hf : Fresh μ h) (hh : w'.heap = w.heap) (ho : w'.os = w.os) (ht : w'.tape = w.tape) (hu : w'.output = w.output) : Step μ μ h h w w' := by
  refine ⟨.refl _, fun _ _ hm => .inl hm, fun _ _ hs => hs, ⟨fun b m o hb hob => (hr.obj b m o hb hob).of_heap (by rw [hh]), hr.inj⟩, hf, Nat.le_refl _, (fun _ h1 h2 _ => absurd h1 (Nat.not_le.2 h2)), ho, ht, hu, by rw [hh]; exact Nat.le_refl _, fun _ _ _ => by rw [hh]⟩
theorem Step.drew {μ : Mu} {h : Heap} {w : World} (hr : Rel μ h w) (hf : Fresh μ h) : Step μ μ h h w w.drew := Step.heap_eq hr hf rfl rfl rfl rfl
end Go.Proofs.Ytfehhihllenjiaa
