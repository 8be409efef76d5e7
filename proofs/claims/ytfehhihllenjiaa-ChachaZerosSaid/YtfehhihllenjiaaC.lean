/- The operations, abstractly, and that the model's run follows them: memory. -/
import Derived.Test.YtfehhihllenjiaaB
import Derived.Laws.Entries
set_option linter.all false
namespace Go.Proofs.Ytfehhihllenjiaa

def Sound (P : Program) (s : Sem Value) (μ : Mu) (h : Heap) (w : World) (v : Value) (h' : Heap) : Prop :=
  ∃ v' w' μ', s.run P w = .ok v' w' ∧ Step μ μ' h h' w w' ∧ VR μ' v v'

/-- A type's zero, where it is plain. -/
def zeroC (info : TypeInfo) : Option Value := match info.zero with
  | some z => if closedV 8 z = true then some z else none
  | none => none
theorem zeroC_spec {info : TypeInfo} {z : Value} (h : zeroC info = some z) : info.zero = some z ∧ closedV 8 z = true := by
  unfold zeroC at h
  split at h
  · rename_i z' hz
    split at h
    · rename_i hc
      cases h
      exact ⟨hz, hc⟩
    · cases h
  · cases h
structure ProgOk (P : Program) : Prop where
  mixed : P.follows .mixedOrders = true

def isAggD : TypeDesc → Bool
  | .struct _ | .array _ _ => true
  | _ => false
theorem run_isAgg {P : Program} {t : TypeId} {d : TypeDesc} (h : P.underlying t = some d) (w : World) : (isAgg t).run P w = .ok (isAggD d) w := by
  simp only [isAgg, Sem.run_bind, run_underlying h, Result.andThen_ok]
  cases d <;> rfl
theorem run_typeInfo {P : Program} {t : TypeId} {i : TypeInfo} (h : P.info? t = some i) (w : World) : (typeInfo t).run P w = .ok i w := by
  simp [typeInfo, h]
theorem run_sizeOf {P : Program} {t : TypeId} {i : TypeInfo} (h : P.info? t = some i) (w : World) : (sizeOf t).run P w = .ok i.size w := by
  simp [sizeOf, run_typeInfo h]
theorem run_zeroValue {P : Program} {t : TypeId} {i : TypeInfo} {z : Value} (h : P.info? t = some i) (hz : i.zero = some z) (w : World) : (zeroValue t).run P w = .ok z w := by
  simp [zeroValue, run_typeInfo h, hz]

theorem addr_add (B o n : Nat) : (⟨B, o, none⟩ : Addr).add n = ⟨B, o + n, none⟩ := by unfold Addr.add; split <;> simp_all

/-! load -/
def evLoad (P : Program) (t : TypeId) (a : Value) (h : Heap) : Option Value :=
  match a with
  | .pointer (some ⟨b, i, none⟩) =>
    match P.underlying t, P.info? t, h.obj b with
    | some d, some info, some (.row _ _ cs) =>
      if isAggD d then (if i + info.size ≤ cs.length then some (.agg ((cs.drop i).take info.size).toArray) else none) else cs[i]?
    | _, _, _ => none
  | _ => none

theorem evLoad_sound {P : Program} {t : TypeId} {a a' : Value} {h : Heap} {v : Value} {μ : Mu} {w : World} (he : evLoad P t a h = some v) (hr : Rel μ h w) (hf : Fresh μ h) (ha : VR μ a a') :
    ∃ v', (Instr.loadAt t a').run P w = .ok v' w ∧ VR μ v v' := by
  unfold evLoad at he
  split at he
  case h_2 => simp at he
  case h_1 b i =>
  cases ha with
  | ptr hb =>
  rename_i m
  split at he
  case h_2 => simp at he
  case h_1 d info k es cs hd hi ho =>
  obtain ⟨_, _, hlen, hroom, arr, el, fr, hblk, hsz, hvl, _⟩ := hr.obj b m _ hb ho
  simp only [Instr.loadAt, Instr.sureAddr, loadVar, Sem.run_bind, Sem.run_pure, Result.andThen_ok, run_isAgg hd]
  by_cases hg : isAggD d = true
  · simp only [hg, if_true] at he ⊢
    split at he
    case isFalse => simp at he
    case isTrue hle =>
    simp only [Option.some.injEq] at he
    subst he
    simp only [Sem.run_bind, run_sizeOf hi, Result.andThen_ok, run_loadCells_row hblk (show m.o + i + info.size ≤ arr.size by omega), Sem.run_pure]
    refine ⟨_, rfl, .agg ?_⟩
    have := (hvl.drop i).take info.size
    simp only [List.drop_take, List.drop_drop, List.take_take] at this
    rwa [Nat.min_eq_left (by omega)] at this
  · simp only [Bool.not_eq_true] at hg
    simp only [hg, Bool.false_eq_true, if_false] at he ⊢
    obtain ⟨v', hv', hvr⟩ := hvl.get he
    have hil : i < m.len := by
      have := (List.getElem?_eq_some_iff.1 he).1; omega
    have : arr[m.o + i]? = some v' := by
      simpa [List.getElem?_take, hil] using hv'
    exact ⟨v', run_load_row hblk this, hvr⟩

/-! store -/
def evStore (P : Program) (t : TypeId) (a v : Value) (h : Heap) : Option Heap :=
  match a with
  | .pointer (some ⟨b, i, none⟩) =>
    match P.info? t, h.obj b with
    | some info, some (.row k es cs) =>
      if k ≠ .ro ∧ v.cells.size = info.size ∧ i + info.size ≤ cs.length ∧ v.cells.toList.all (fun x => x.oneCell') = true then
        some (h.put b (some (.row k es (setAt cs i v.cells.toList)))) else none
    | _, _ => none
  | _ => none

theorem VRL.oneCell {μ : Mu} : ∀ {l l' : List Value}, VRL μ l l' → l.all (fun x => x.oneCell') = true → ∀ v ∈ l', v.oneCell' = true
  | _, _, .nil, _, v, hv => by simp at hv
  | _, _, .cons h t, ha, v, hv => by
    simp only [List.all_cons, Bool.and_eq_true] at ha
    rcases List.mem_cons.1 hv with rfl | hv
    · rw [h.oneCell]; exact ha.1
    · exact VRL.oneCell t ha.2 v hv

theorem row_write {μ : Mu} {m : Loc} {k : Kind} {es : Nat} {cs : List Value} {w : World} (h : RowRel μ m k es cs w) {arr : Array Value} {el : TypeId} {fr : Nat × Nat} (hb : w.heap[m.B]? = some (.cells arr el fr))
    {vs vs' : List Value} (hv : VRL μ vs vs') (i : Nat) : RowRel μ m k es (setAt cs i vs) (w.setBlk m.B (.cells (setAt arr.toList (m.o + i) vs').toArray el fr)) := by
  obtain ⟨h1, h2, h3, h4, arr2, el2, fr2, hb2, h5, h6, h7⟩ := h
  rw [hb] at hb2; cases hb2
  refine ⟨h1, h2, by simpa using h3, h4, _, _, _, setBlk_get hb, by simpa using h5, ?_, by simpa using h7⟩
  simp only [setAt_window]
  exact VRL.setAt i h6 hv

theorem evStore_sound {P : Program} {t : TypeId} {a a' v v' : Value} {h h' : Heap} {μ : Mu} {w : World} (he : evStore P t a v h = some h') (hr : Rel μ h w) (hf : Fresh μ h) (ha : VR μ a a') (hv : VR μ v v') :
    ∃ w', (Instr.storeAt t a' v').run P w = .ok () w' ∧ Step μ μ h h' w w' := by
  unfold evStore at he
  split at he
  case h_2 => simp at he
  case h_1 b i =>
  cases ha with
  | ptr hb =>
  rename_i m
  split at he
  case h_2 => simp at he
  case h_1 info k es cs hi ho =>
  split at he
  case isFalse => simp at he
  case isTrue hc =>
  obtain ⟨hk, hsize, hle, hone⟩ := hc
  simp only [Option.some.injEq] at he
  subst he
  have hrow := hr.obj b m _ hb ho
  obtain ⟨hmk, _, hlen, hroom, arr, el, fr, hblk, hsz, hvl, hfz⟩ := id hrow
  have hcl := hv.cells
  have hcs : v'.cells.size = info.size := by have := hcl.length; simp at this; omega
  have hst := run_storeCells_row (P := P) (o := m.o + i) v'.cells.toList 0 arr w hblk (by simp; omega) (hcl.oneCell hone) (hfz hk)
  simp only [Nat.add_zero] at hst
  exact ⟨w.setBlk m.B (.cells (setAt arr.toList (m.o + i) v'.cells.toList).toArray el fr), by simp [Instr.storeAt, Instr.sureAddr, storeVar, run_sizeOf hi, hcs, hst],
    Step.put hr hf hb (by simp [ho]) (by rw [hmk]; exact hk) (.row k es (setAt cs i v.cells.toList)) (.cells (setAt arr.toList (m.o + i) v'.cells.toList).toArray el fr) (row_write hrow hblk hcl i)⟩

/-! alloc, box -/
def newRowH (h : Heap) (k : Kind) (es : Nat) (cs : List Value) : Heap := h.push (.row k es cs)
def evBox (v : Value) (h : Heap) : Option (Value × Heap) :=
  if v.cells.toList.all (fun x => x.oneCell') = true then some (.pointer (some ⟨h.nx, 0, none⟩), newRowH h .rw 1 v.cells.toList) else none
def evAlloc (P : Program) (t : TypeId) (h : Heap) : Option (Value × Heap) :=
  match P.info? t with
  | some info => match zeroC info with
    | some z => some (.pointer (some ⟨h.nx, 0, none⟩), newRowH h .rw 1 z.cells.toList)
    | none => none
  | none => none

theorem alloc_get (w : World) (o : Obj) : (w.alloc o).heap[w.heap.size]? = some o := by
  show (w.heap.push o)[w.heap.size]? = _
  simp

theorem push_row {μ : Mu} {h : Heap} {w : World} (hr : Rel μ h w) (hf : Fresh μ h) (k : Kind) (es : Nat) (cs : List Value) (arr : Array Value) (el : TypeId) (fr : Nat × Nat)
    (hv : VRL μ cs (arr.toList.take cs.length)) (hfr : ∀ j, j < arr.size → ¬ (fr.1 ≤ j ∧ j < fr.2)) :
    Step μ (upd μ h.nx (some ⟨w.heap.size, 0, cs.length, arr.size, es, k⟩)) h (newRowH h k es cs) w (w.alloc (.cells arr el fr)) := by
  have hx : Ext μ (upd μ h.nx (some ⟨w.heap.size, 0, cs.length, arr.size, es, k⟩)) := fun b m' hb => by
    have := hf.lt hb
    rw [upd_other _ _ (by omega)]; exact hb
  have hlen : cs.length ≤ arr.size := by have := hv.length; simp at this; omega
  refine Step.alloc hr hf _ _ _ rfl ⟨rfl, rfl, rfl, hlen, arr, el, fr, alloc_get w _, by simp, ?_, fun _ => hfr⟩
  simpa using hv.mono hx

theorem evBox_sound {P : Program} {t : TypeId} {v v' r : Value} {h h' : Heap} {μ : Mu} {w : World} (he : evBox v h = some (r, h')) (hr : Rel μ h w) (hf : Fresh μ h) (hv : VR μ v v') :
    Sound P (Instr.box t v') μ h w r h' := by
  unfold evBox at he
  split at he
  case isFalse => simp at he
  case isTrue hone =>
  simp only [Option.some.injEq, Prod.mk.injEq] at he
  obtain ⟨rfl, rfl⟩ := he
  have hl := hv.cells.length
  have hp := push_row hr hf .rw 1 v.cells.toList v'.cells t (0, 0) (by rw [hl, List.take_length]; exact hv.cells) (by simp)
  refine ⟨_, _, _, ?_, hp, .ptr (i := 0) (upd_same _ _ _)⟩
  simp [Instr.box, newVar, newRow]

theorem evAlloc_sound {P : Program} (hP : ProgOk P) {t : TypeId} {r : Value} {h h' : Heap} {μ : Mu} {w : World} (he : evAlloc P t h = some (r, h')) (hr : Rel μ h w) (hf : Fresh μ h) :
    Sound P (Instr.alloc t true (.tuple #[])) μ h w r h' := by
  unfold evAlloc at he
  split at he
  case h_2 => simp at he
  case h_1 info hi =>
  split at he
  case h_2 => simp at he
  case h_1 z hz =>
  obtain ⟨hz, hzq⟩ := zeroC_spec hz
  simp only [Option.some.injEq, Prod.mk.injEq] at he
  obtain ⟨rfl, rfl⟩ := he
  have hcl := (VR.closed (μ := μ) 8 z hzq).cells
  have hp := push_row hr hf .rw 1 z.cells.toList z.cells t (0, 0) (by rw [List.take_length]; exact hcl) (by simp)
  refine ⟨_, _, _, ?_, hp, .ptr (i := 0) (upd_same _ _ _)⟩
  simp [Instr.alloc, run_zeroValue hi hz, newVar, newRow]

/-! parts of a value -/
def evPart (P : Program) (t : TypeId) (cs : Array Value) (off : Nat) : Option Value :=
  match P.underlying t, P.info? t with
  | some d, some info => if isAggD d then some (.agg (cs.extract off (off + info.size))) else cs[off]?
  | _, _ => none
theorem evPart_sound {P : Program} {t : TypeId} {cs cs' : Array Value} {off : Nat} {v : Value} {μ : Mu} (he : evPart P t cs off = some v) (hc : VRL μ cs.toList cs'.toList) (w : World) :
    ∃ v', (part t cs' off).run P w = .ok v' w ∧ VR μ v v' := by
  unfold evPart at he
  split at he
  case h_2 => simp at he
  case h_1 d info hd hi =>
  simp only [part, Sem.run_bind, run_isAgg hd, Result.andThen_ok]
  by_cases hg : isAggD d = true
  · simp only [hg, if_true, Option.some.injEq] at he ⊢
    subst he
    simp only [Sem.run_bind, run_sizeOf hi, Result.andThen_ok, Sem.run_pure]
    refine ⟨_, rfl, .agg ?_⟩
    simpa [Array.toList_extract] using (hc.drop off).take info.size
  · simp only [Bool.not_eq_true] at hg
    simp only [hg, Bool.false_eq_true, if_false] at he ⊢
    obtain ⟨v', hv', hvr⟩ := hc.get (i := off) (v := v) (by simpa using he)
    have : cs'[off]? = some v' := by simpa using hv'
    exact ⟨v', by simp [this], hvr⟩

def evField (P : Program) (t : TypeId) (v : Value) (f : Nat) : Option Value :=
  match P.underlying t, v with
  | some (.struct fields), .agg cs => match fields[f]? with
    | some fd => evPart P fd.type cs fd.offset
    | none => none
  | _, _ => none
theorem evField_sound {P : Program} {t : TypeId} {v v' r : Value} {f : Nat} {μ : Mu} (he : evField P t v f = some r) (hv : VR μ v v') (w : World) : ∃ r', (Instr.field t v' f).run P w = .ok r' w ∧ VR μ r r' := by
  unfold evField at he
  split at he
  case h_2 => simp at he
  case h_1 fields cs hd =>
  cases hv with
  | agg hc =>
  rename_i cs'
  split at he
  case h_2 => simp at he
  case h_1 fd hfd =>
  obtain ⟨r', hr', hvr⟩ := evPart_sound he hc w
  exact ⟨r', by simp [Instr.field, run_underlying hd, hfd, asAgg, hr'], hvr⟩

def evFieldAddr (P : Program) (t : TypeId) (v : Value) (f : Nat) : Option Value :=
  match P.underlying t, v with
  | some (.struct fields), .pointer (some ⟨b, i, none⟩) => match fields[f]? with
    | some fd => match P.info? fd.type with
      | some info => if info.size = 0 then none else some (.pointer (some ⟨b, i + fd.offset, none⟩))
      | none => none
    | none => none
  | _, _ => none
theorem evFieldAddr_sound {P : Program} {t : TypeId} {v v' r : Value} {f : Nat} {μ : Mu} (he : evFieldAddr P t v f = some r) (hv : VR μ v v') (w : World) : ∃ r', (Instr.fieldAt t v' f).run P w = .ok r' w ∧ VR μ r r' := by
  unfold evFieldAddr at he
  split at he
  case h_2 => simp at he
  case h_1 fields b i hd =>
  cases hv with
  | ptr hb =>
  rename_i m
  split at he
  case h_2 => simp at he
  case h_1 fd hfd =>
  split at he
  case h_2 => simp at he
  case h_1 info hi =>
  split at he
  case isTrue => simp at he
  case isFalse hs =>
  simp only [Option.some.injEq] at he
  subst he
  refine ⟨.pointer (some ⟨m.B, m.o + (i + fd.offset), none⟩), ?_, .ptr hb⟩
  simp [Instr.fieldAt, run_underlying hd, hfd, Instr.sureAddr, fieldPlace, run_sizeOf hi, hs, addr_add, Nat.add_assoc]

def evInt : Value → Option Int
  | .int _ n => some n
  | _ => none
def evIndexAddr (P : Program) (t : TypeId) (x ix : Value) : Option Value :=
  match evInt ix, P.underlying t, x with
  | some i, some (.array len elem), .pointer (some ⟨b, o, none⟩) => match P.info? elem with
    | some info => if 0 ≤ i ∧ i < len then some (.pointer (some ⟨b, o + i.toNat * info.size, none⟩)) else none
    | none => none
  | some i, some (.slice elem), .slice (some ⟨b, o, none⟩) len _ => match P.info? elem with
    | some info => if 0 ≤ i ∧ i < len then some (.pointer (some ⟨b, o + i.toNat * info.size, none⟩)) else none
    | none => none
  | _, _, _ => none
theorem evInt_run {v v' : Value} {i : Int} {μ : Mu} (he : evInt v = some i) (hv : VR μ v v') {P : Program} (w : World) : ∃ k, v' = .int k i ∧ (asIntOf v').run P w = .ok (k, i) w := by
  unfold evInt at he
  split at he
  · simp only [Option.some.injEq] at he; subst he; cases hv; exact ⟨_, rfl, rfl⟩
  · simp at he
theorem evIndexAddr_sound {P : Program} {t : TypeId} {x x' ix ix' r : Value} {μ : Mu} (he : evIndexAddr P t x ix = some r) (hx : VR μ x x') (hix : VR μ ix ix') (w : World) :
    ∃ r', (Instr.indexAt t x' ix').run P w = .ok r' w ∧ VR μ r r' := by
  unfold evIndexAddr at he
  split at he
  · rename_i i len elem b o hi hd
    obtain ⟨k, rfl, hk⟩ := evInt_run hi hix (P := P) w
    cases hx with
    | ptr hb =>
    rename_i m
    split at he
    case h_2 => simp at he
    case h_1 info hin =>
    split at he
    case isFalse => simp at he
    case isTrue hlt =>
    simp only [Option.some.injEq] at he
    subst he
    refine ⟨.pointer (some ⟨m.B, m.o + (o + i.toNat * info.size), none⟩), ?_, .ptr hb⟩
    simp [Instr.indexAt, hk, run_underlying hd, Instr.sureAddr, hlt, run_sizeOf hin, addr_add, Nat.add_assoc]
  · rename_i i elem b o len c hi hd
    obtain ⟨k, rfl, hk⟩ := evInt_run hi hix (P := P) w
    cases hx with
    | slice hb hc =>
    rename_i C m
    split at he
    case h_2 => simp at he
    case h_1 info hin =>
    split at he
    case isFalse => simp at he
    case isTrue hlt =>
    simp only [Option.some.injEq] at he
    subst he
    refine ⟨.pointer (some ⟨m.B, m.o + (o + i.toNat * info.size), none⟩), ?_, .ptr hb⟩
    simp [Instr.indexAt, hk, run_underlying hd, hlt, run_sizeOf hin, addr_add, Nat.add_assoc]
  · simp at he

def evIndex (P : Program) (t : TypeId) (x ix : Value) : Option Value :=
  match evInt ix, P.underlying t, x with
  | some i, some (.array len elem), .agg cs => match P.info? elem with
    | some info => if 0 ≤ i ∧ i < len then evPart P elem cs (i.toNat * info.size) else none
    | none => none
  | some i, some .string, .string s => if 0 ≤ i then (s[i.toNat]?).map fun b => .int .u8 b.toNat else none
  | _, _, _ => none
theorem evIndex_sound {P : Program} {t : TypeId} {x x' ix ix' r : Value} {μ : Mu} (he : evIndex P t x ix = some r) (hx : VR μ x x') (hix : VR μ ix ix') (w : World) :
    ∃ r', (Instr.index t x' ix').run P w = .ok r' w ∧ VR μ r r' := by
  unfold evIndex at he
  split at he
  · rename_i i len elem cs hi hd
    obtain ⟨k, rfl, hk⟩ := evInt_run hi hix (P := P) w
    cases hx with
    | agg hc =>
    rename_i cs'
    split at he
    case h_2 => simp at he
    case h_1 info hin =>
    split at he
    case isFalse => simp at he
    case isTrue hlt =>
    obtain ⟨r', hr', hvr⟩ := evPart_sound he hc w
    exact ⟨r', by simp [Instr.index, hk, run_underlying hd, hlt, run_sizeOf hin, hr'], hvr⟩
  · rename_i i s hi hd
    obtain ⟨k, rfl, hk⟩ := evInt_run hi hix (P := P) w
    cases hx
    split at he
    case isFalse => simp at he
    case isTrue h0 =>
    cases hb : s[i.toNat]? with
    | none => simp [hb] at he
    | some b =>
      simp only [hb, Option.map_some, Option.some.injEq] at he
      subst he
      exact ⟨_, by simp [Instr.index, hk, run_underlying hd, h0, hb], .int _ _⟩
  · simp at he

def evExtract (v : Value) (k : Nat) : Option Value :=
  match v with
  | .tuple vs => vs[k]?
  | _ => none
theorem evExtract_sound {P : Program} {v v' r : Value} {k : Nat} {μ : Mu} (he : evExtract v k = some r) (hv : VR μ v v') (w : World) : ∃ r', (Instr.extract v' k).run P w = .ok r' w ∧ VR μ r r' := by
  unfold evExtract at he
  split at he
  case h_2 => simp at he
  case h_1 vs =>
  cases hv with
  | tuple hc =>
  rename_i vs'
  obtain ⟨r', hr', hvr⟩ := hc.get (i := k) (v := r) (by simpa using he)
  have : vs'[k]? = some r' := by simpa using hr'
  exact ⟨r', by simp [Instr.extract, this], hvr⟩
end Go.Proofs.Ytfehhihllenjiaa
