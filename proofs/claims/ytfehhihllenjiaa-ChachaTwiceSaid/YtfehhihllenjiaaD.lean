/- Operations that make memory, slices, append and copy. -/
import Derived.Test.YtfehhihllenjiaaC
set_option linter.all false
namespace Go.Proofs.Ytfehhihllenjiaa

/-! build -/
theorem foldl_setAt : ∀ (vs : List Value) (k off : Nat) (arr : Array Value), ((vs.zipIdx k).foldl (fun cs (p : Value × Nat) => cs.setIfInBounds (off + p.2) p.1) arr).toList = setAt arr.toList (off + k) vs
  | [], _, _, _ => rfl
  | v :: vs, k, off, arr => by
    simp only [List.zipIdx_cons, List.foldl_cons, setAt]
    rw [foldl_setAt vs (k + 1) off, Array.toList_setIfInBounds]
    rw [show off + (k + 1) = off + k + 1 by omega]

def fillL (place : Nat → Option (Nat × Nat)) (cells : List Value) : List (Nat × Value) → Option (List Value)
  | [] => some cells
  | (i, v) :: rest =>
    match place i with
    | none => none
    | some (off, size) => if v.cells.size ≠ size ∨ off + v.cells.size > cells.length then none else fillL place (setAt cells off v.cells.toList) rest

theorem fill_sound {μ : Mu} {place place' : Nat → Option (Nat × Nat)} (hp : ∀ i r, place i = some r → place' i = some r) {f g : Operand → Value} : ∀ (ps : List (Nat × Operand)) (cells : List Value) (cells' : Array Value) (r : List Value),
    VRL μ cells cells'.toList → (∀ p ∈ ps, VR μ (f p.2) (g p.2)) → fillL place cells (ps.map fun p => (p.1, f p.2)) = some r →
    ∃ r', Instr.fill place' cells' (ps.map fun p => (p.1, g p.2)) = some r' ∧ VRL μ r r'.toList
  | [], cells, cells', r, hc, _, h => by
    simp only [List.map_nil, fillL, Option.some.injEq] at h
    subst h
    exact ⟨cells', rfl, hc⟩
  | p :: ps, cells, cells', r, hc, hv, h => by
    simp only [List.map_cons, fillL] at h
    have hvp := hv p (by simp)
    have hcl := hvp.cells
    have hlen := hcl.length
    simp only [Array.length_toList] at hlen
    have hcl' := hc.length
    simp only [Array.length_toList] at hcl'
    split at h
    case h_1 => simp at h
    case h_2 off size hpl =>
    split at h
    case isTrue => simp at h
    case isFalse hn =>
    obtain ⟨r', hr', hvr⟩ := fill_sound hp ps _ ((g p.2).cells.zipIdx.foldl (fun cs (p : Value × Nat) => cs.setIfInBounds (off + p.2) p.1) cells') r (by
      rw [← Array.foldl_toList, Array.toList_zipIdx, foldl_setAt]
      exact VRL.setAt _ hc hcl) (fun q hq => hv q (by simp [hq])) h
    refine ⟨r', ?_, hvr⟩
    simp only [List.map_cons, Instr.fill, hp _ _ hpl]
    have hne : ((g p.2).cells.size != size || decide (off + (g p.2).cells.size > cells'.size)) = false := by
      rw [← hlen, ← hcl']
      simp only [Bool.or_eq_false_iff, bne_eq_false_iff_eq, decide_eq_false_iff_not]
      omega
    have hne1 : ¬ ((g p.2).cells.size ≠ size ∨ off + (g p.2).cells.size > cells'.size) := by omega
    simpa [hne1] using hr'

def evBuild (P : Program) (t : TypeId) (parts : List (Nat × Value)) : Option Value :=
  match P.underlying t, P.info? t with
  | some (.struct fields), some info => match zeroC info with
    | some z => if fields.toList.all (fun f => (P.info? f.type).isSome) then
        (fillL (fun i => (fields[i]?).bind fun f => (P.info? f.type).map fun fi => (f.offset, fi.size)) z.cells.toList parts).map fun l => .agg l.toArray else none
    | none => none
  | some (.array _ elem), some info => match zeroC info, P.info? elem with
    | some z, some ei => (fillL (fun i => some (i * ei.size, ei.size)) z.cells.toList parts).map fun l => .agg l.toArray
    | _, _ => none
  | _, _ => none

theorem mapM_places {P : Program} (w : World) : ∀ (l : List Field), l.all (fun f => (P.info? f.type).isSome) = true →
    (l.mapM fun f => Prod.mk f.offset <$> sizeOf f.type : Sem (List (Nat × Nat))).run P w = .ok (l.map fun f => (f.offset, P.cellsOf f.type)) w
  | [], _ => rfl
  | f :: l, h => by
    simp only [List.all_cons, Bool.and_eq_true] at h
    obtain ⟨i, hi⟩ := Option.isSome_iff_exists.1 h.1
    have ih := mapM_places w l h.2
    simp only [List.mapM_cons, Sem.run_bind, Sem.run_map, run_sizeOf hi, Result.andThen_ok, ih, Sem.run_pure]
    simp [Program.cellsOf, hi]

theorem evBuild_sound {P : Program} (hP : ProgOk P) {t : TypeId} {f g : Operand → Value} {ps : List (Nat × Operand)} {r : Value} {μ : Mu} (he : evBuild P t (ps.map fun p => (p.1, f p.2)) = some r)
    (hv : ∀ p ∈ ps, VR μ (f p.2) (g p.2)) (w : World) : ∃ r', (Instr.build t (ps.map fun p => (p.1, g p.2)).toArray).run P w = .ok r' w ∧ VR μ r r' := by
  unfold evBuild at he
  split at he
  · rename_i fields info hd hi
    split at he
    case h_2 => simp at he
    case h_1 z hz =>
    obtain ⟨hz, hzq⟩ := zeroC_spec hz
    split at he
    case isFalse => simp at he
    case isTrue hall =>
    obtain ⟨l, hl, rfl⟩ := Option.map_eq_some_iff.1 he
    have hcl := (VR.closed (μ := μ) 8 z hzq).cells
    obtain ⟨l', hl', hvl⟩ := fill_sound (place' := ((fields.toList.map fun f => (f.offset, P.cellsOf f.type)).toArray[·]?)) (by
      intro i r hr
      simp only [Option.bind_eq_some_iff, Option.map_eq_some_iff] at hr
      obtain ⟨fd, hfd, fi, hfi, rfl⟩ := hr
      simp [hfd, Program.cellsOf, hfi]) ps _ z.cells l hcl hv hl
    refine ⟨.agg l', ?_, .agg (by simpa using hvl)⟩
    have hm := mapM_places (P := P) w fields.toList hall
    simp [Instr.build, run_zeroValue hi hz, run_underlying hd, Array.mapM_eq_mapM_toList, hm]
    simp at hl'
    simp [hl']
  · rename_i n elem info hd hi
    split at he
    case h_2 => simp at he
    case h_1 z ei hz hei =>
    obtain ⟨hz, hzq⟩ := zeroC_spec hz
    obtain ⟨l, hl, rfl⟩ := Option.map_eq_some_iff.1 he
    have hcl := (VR.closed (μ := μ) 8 z hzq).cells
    obtain ⟨l', hl', hvl⟩ := fill_sound (place' := fun i => some (i * ei.size, ei.size)) (fun _ _ h => h) ps _ z.cells l hcl hv hl
    refine ⟨.agg l', ?_, .agg (by simpa using hvl)⟩
    simp [Instr.build, run_zeroValue hi hz, run_underlying hd, run_sizeOf hei, hl']
  · simp at he

/-! zero cells -/
def zeroCellsL (z : List Value) (n : Nat) : List Value :=
  match z with
  | [v] => List.replicate n v
  | _ => (List.range (n * z.length)).map fun i => z.getD (i % z.length) default

theorem closed_default (μ : Mu) : VR μ (default : Value) default := .bool _
theorem zero_getD {μ : Mu} {z : List Value} (hz : VRL μ z z) (i : Nat) : VR μ (z.getD i default) (z.getD i default) := by
  cases h : z[i]? with
  | none => simp [List.getD, h]; exact closed_default μ
  | some v => obtain ⟨v', hv', r⟩ := hz.get h; rw [h] at hv'; cases hv'; simp [List.getD, h]; exact r
theorem zeroCells_rel {μ : Mu} {z : Array Value} (hz : VRL μ z.toList z.toList) (n : Nat) : VRL μ (zeroCellsL z.toList n) (((Array.range (n * z.size)).map fun i => z[i % z.size]!).toList) := by
  have key : VRL μ ((List.range (n * z.size)).map fun i => z.toList.getD (i % z.size) default) (((Array.range (n * z.size)).map fun i => z[i % z.size]!).toList) := by
    rw [Array.toList_map, Array.toList_range]
    refine VRL.map_range _ _ _ fun i _ => ?_
    have : z[i % z.size]! = z.toList.getD (i % z.size) default := by
      simp [List.getD, Array.getElem!_eq_getD, Array.getD_eq_getD_getElem?]
    rw [this]
    exact zero_getD hz _
  unfold zeroCellsL
  split
  · rename_i v hv
    have h1 : z.size = 1 := by have := congrArg List.length hv; simpa using this
    have : ((List.range (n * z.size)).map fun i => z.toList.getD (i % z.size) default) = List.replicate n v := by
      apply List.ext_getElem?
      intro i
      rw [hv, h1]
      simp only [Nat.mul_one, Nat.mod_one, List.getElem?_map, List.getElem?_replicate]
      by_cases h : i < n <;> simp [h, List.getD]
    rwa [this] at key
  · simpa using key
theorem zeroCellsL_length (z : List Value) (n : Nat) : (zeroCellsL z n).length = n * z.length := by
  unfold zeroCellsL; split <;> simp
theorem zeroCellsL_one {z : List Value} (h : z.all (fun v => v.oneCell') = true) (n : Nat) : (zeroCellsL z n).all (fun v => v.oneCell') = true := by
  have hg : ∀ i, (z.getD i default).oneCell' = true := fun i => by
    cases hi : z[i]? with
    | none => simp [List.getD, hi]; rfl
    | some v => simp only [List.getD, hi, Option.getD_some]; exact List.all_eq_true.1 h v (List.mem_of_getElem? hi)
  unfold zeroCellsL
  split
  · rename_i v
    simp only [List.all_eq_true, List.mem_replicate]
    rintro x ⟨_, rfl⟩
    simpa using h
  · simp only [List.all_eq_true, List.mem_map, List.mem_range]
    rintro x ⟨i, _, rfl⟩
    exact hg _

theorem map_range_zero {α : Type} (f : Nat → α) : (Array.range 0).map f = #[] := by apply Array.ext'; simp

/-! a literal slice -/
def emptyS : Value := .slice (some ⟨0, 0, some 0⟩) 0 0
def anyS : Value := .slice (some ⟨0, 0, some 1⟩) 0 0
def evBuildSlice (P : Program) (t : TypeId) (len : Nat) (parts : List (Nat × Value)) (h : Heap) : Option (Value × Heap) :=
  match P.underlying t with
  | some (.slice elem) => match P.info? elem with
    | some info => match zeroC info with
      | some z =>
        if len = 0 then (if parts.isEmpty then some (emptyS, h) else none)
        else if z.cells.size = info.size ∧ 0 < info.size ∧ len * info.size ≤ 2 ^ 24 then
          match fillL (fun i => some (i * info.size, info.size)) (zeroCellsL z.cells.toList len) parts with
          | some l => some (.slice (some ⟨h.nx, 0, none⟩) len len, newRowH h .rw info.size l)
          | none => none
        else none
      | none => none
    | none => none
  | _ => none

theorem evBuildSlice_sound {P : Program} (hP : ProgOk P) {t : TypeId} {len : Nat} {f g : Operand → Value} {ps : List (Nat × Operand)} {r : Value} {h h' : Heap} {μ : Mu} {w : World}
    (he : evBuildSlice P t len (ps.map fun p => (p.1, f p.2)) h = some (r, h')) (hr : Rel μ h w) (hf : Fresh μ h) (hv : ∀ p ∈ ps, VR μ (f p.2) (g p.2)) :
    Sound P (Instr.buildSlice t len (ps.map fun p => (p.1, g p.2)).toArray) μ h w r h' := by
  unfold evBuildSlice at he
  split at he
  case h_2 => simp at he
  case h_1 elem hd =>
  split at he
  case h_2 => simp at he
  case h_1 info hi =>
  split at he
  case h_2 => simp at he
  case h_1 z hz =>
  obtain ⟨hz, hzq⟩ := zeroC_spec hz
  split at he
  · rename_i hlen
    subst hlen
    split at he
    case isFalse => simp at he
    case isTrue hps =>
    simp only [Option.some.injEq, Prod.mk.injEq] at he
    obtain ⟨rfl, rfl⟩ := he
    have hps' : ps = [] := by cases ps with | nil => rfl | cons a l => simp at hps
    subst hps'
    refine ⟨.slice (some ⟨w.heap.size, 0, none⟩) 0 0, w.alloc (.cells #[] elem), upd μ h.nx none, ?_, ?_, .empty0 _⟩
    · simp [Instr.buildSlice, run_underlying hd, run_sizeOf hi, Instr.fill, newRow, map_range_zero]
    · have : upd μ h.nx none = μ := by
        funext b; by_cases hb : b = h.nx
        · subst hb; rw [upd_same]; exact (hf _ (Nat.le_refl _)).symm
        · exact upd_other _ _ hb
      rw [this]
      have hold : ∀ C, C < w.heap.size → (w.alloc (.cells #[] elem)).heap[C]? = w.heap[C]? := fun C hC => by
        show (w.heap.push _)[C]? = _
        rw [Array.getElem?_push, if_neg (by omega)]
      exact ⟨.refl _, fun _ _ hm => .inl hm, fun _ _ hs => hs, ⟨fun b m o hb ho => (hr.obj b m o hb ho).of_heap (hold _ (hr.obj b m o hb ho).lt), hr.inj⟩, hf, Nat.le_refl _, (fun _ h1 h2 _ => absurd h1 (Nat.not_le.2 h2)), ⟨rfl, rfl, rfl, by simp, fun B hB _ => hold B hB⟩⟩
  · rename_i hlen
    split at he
    case isFalse => simp at he
    case isTrue hc =>
    obtain ⟨hzs, hpos, hbig⟩ := hc
    split at he
    case h_2 => simp at he
    case h_1 l hl =>
    simp only [Option.some.injEq, Prod.mk.injEq] at he
    obtain ⟨rfl, rfl⟩ := he
    have hcl := (VR.closed (μ := μ) 8 z hzq).cells
    have hzc := zeroCells_rel hcl len
    rw [hzs] at hzc
    obtain ⟨l', hl', hvl⟩ := fill_sound (place' := fun i => some (i * info.size, info.size)) (fun _ _ h => h) ps _ _ l hzc hv hl
    have hne : ¬ len * info.size = 0 := by
      have := Nat.mul_pos (Nat.pos_of_ne_zero hlen) hpos; omega
    have hp := push_row hr hf .rw info.size l l' elem (0, 0) (by rw [hvl.length, List.take_length]; exact hvl) (by simp)
    refine ⟨_, _, _, ?_, hp, .slice (i := 0) (upd_same _ _ _) (.inl rfl)⟩
    rw [hzs.symm] at hl'
    simp [Instr.buildSlice, run_underlying hd, run_sizeOf hi, show ¬ 2 ^ 24 < len * info.size by omega, hne, run_zeroValue hi hz, newRow]
    rw [← hzs]
    simp [hl']

/-! make -/
def evMakeSlice (P : Program) (t : TypeId) (len cap : Value) (h : Heap) : Option (Value × Heap) :=
  match P.underlying t, evInt len, evInt cap with
  | some (.slice elem), some l, some c => match P.info? elem with
    | some info => match zeroC info with
      | some z =>
        if 0 ≤ l ∧ l ≤ c ∧ info.bytes * c ≤ 2 ^ 48 ∧ c ≤ 2 ^ 48 ∧ z.cells.size = info.size ∧ 0 < info.size then
          if c = 0 then some (emptyS, h)
          else some (.slice (some ⟨h.nx, 0, none⟩) l.toNat c.toNat, newRowH h .rw info.size (zeroCellsL z.cells.toList c.toNat))
        else none
      | none => none
    | none => none
  | _, _, _ => none

theorem wrap_i64 {n : Int} (h0 : 0 ≤ n) (h : n ≤ 2 ^ 48) : IntKind.i64.wrap n = n := by
  simp [IntKind.wrap, IntKind.signed, IntKind.bits]
  omega

theorem alloc_none {μ : Mu} {h : Heap} {w : World} (hr : Rel μ h w) (hf : Fresh μ h) (o : Obj) : Step μ μ h h w (w.alloc o) := by
  have hold : ∀ C, C < w.heap.size → (w.alloc o).heap[C]? = w.heap[C]? := fun C hC => by
    show (w.heap.push _)[C]? = _
    rw [Array.getElem?_push, if_neg (by omega)]
  exact ⟨.refl _, fun _ _ hm => .inl hm, fun _ _ hs => hs, ⟨fun b m o hb ho => (hr.obj b m o hb ho).of_heap (hold _ (hr.obj b m o hb ho).lt), hr.inj⟩, hf, Nat.le_refl _, (fun _ h1 h2 _ => absurd h1 (Nat.not_le.2 h2)), ⟨rfl, rfl, rfl, by simp, fun B hB _ => hold B hB⟩⟩

theorem evInt_asInt {v v' : Value} {i : Int} {μ : Mu} (he : evInt v = some i) (hv : VR μ v v') {P : Program} (w : World) : (asInt v').run P w = .ok i w := by
  obtain ⟨k, rfl, hk⟩ := evInt_run he hv (P := P) w
  simp [asInt, hk]

theorem evMakeSlice_sound {P : Program} (hP : ProgOk P) {t : TypeId} {len cap len' cap' r : Value} {h h' : Heap} {μ : Mu} {w : World}
    (he : evMakeSlice P t len cap h = some (r, h')) (hr : Rel μ h w) (hf : Fresh μ h) (h1 : VR μ len len') (h2 : VR μ cap cap') : Sound P (Instr.makeSlice t len' cap') μ h w r h' := by
  unfold evMakeSlice at he
  split at he
  case h_2 => simp at he
  case h_1 elem l c hd hl hc =>
  split at he
  case h_2 => simp at he
  case h_1 info hi =>
  split at he
  case h_2 => simp at he
  case h_1 z hz =>
  obtain ⟨hz, hzq⟩ := zeroC_spec hz
  split at he
  case isFalse => simp at he
  case isTrue hcnd =>
  obtain ⟨h0, hlc, hb, hc48, hzs, hpos⟩ := hcnd
  have el := evInt_asInt hl h1 (P := P)
  have ec := evInt_asInt hc h2 (P := P)
  have hcl := (VR.closed (μ := μ) 8 z hzq).cells
  have wl := wrap_i64 h0 (by omega)
  have wc := wrap_i64 (n := c) (by omega) hc48
  have n1 : ¬ c < 0 := by omega
  have n2 : ¬ (281474976710656 : Int) < (info.bytes : Int) * c := by simpa using hb
  have n3 : ¬ l < 0 := by omega
  have n4 : ¬ c < l := by omega
  have hrun : (Instr.makeSlice t len' cap').run P w = .ok (.slice (some ⟨w.heap.size, 0, none⟩) l.toNat c.toNat)
      (w.alloc (.cells ((Array.range (c.toNat * info.size)).map fun i => (if c.toNat * info.size = 0 then #[] else z.cells)[i % (if c.toNat * info.size = 0 then #[] else z.cells).size]!) elem)) := by
    by_cases hn : c.toNat * info.size = 0
    · simp [Instr.makeSlice, run_underlying hd, el, ec, run_typeInfo hi, wl, wc, n1, n2, n3, n4, run_sizeOf hi, hn, newRow, map_range_zero]
    · simp [Instr.makeSlice, run_underlying hd, el, ec, run_typeInfo hi, wl, wc, n1, n2, n3, n4, run_sizeOf hi, hn, newRow, run_zeroValue hi hz]
  split at he
  · rename_i hc0
    simp only [Option.some.injEq, Prod.mk.injEq] at he
    obtain ⟨rfl, rfl⟩ := he
    have hl0 : l = 0 := by omega
    subst hc0; subst hl0
    exact ⟨_, _, μ, hrun, alloc_none hr hf _, .empty0 _⟩
  · rename_i hc0
    simp only [Option.some.injEq, Prod.mk.injEq] at he
    obtain ⟨rfl, rfl⟩ := he
    have hn : ¬ c.toNat * info.size = 0 := by
      have := Nat.mul_pos (show 0 < c.toNat by omega) hpos; omega
    simp only [hn, if_false] at hrun
    have hzc := zeroCells_rel hcl c.toNat
    rw [← hzs] at hrun
    have hp := push_row hr hf .rw info.size (zeroCellsL z.cells.toList c.toNat) ((Array.range (c.toNat * z.cells.size)).map fun i => z.cells[i % z.cells.size]!) elem (0, 0)
      (by rw [hzc.length, List.take_length]; exact hzc) (by simp)
    exact ⟨_, _, _, hrun, hp, .slice (i := 0) (upd_same _ _ _) (.inl rfl)⟩
end Go.Proofs.Ytfehhihllenjiaa
