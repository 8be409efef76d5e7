/- append, copy: sound. -/
import Derived.Test.YtfehhihllenjiaaF
set_option linter.all false
namespace Go.Proofs.Ytfehhihllenjiaa

theorem evNew_sound {P : Program} {info : TypeInfo} {z : Value} {xt : TypeId} {x x' : Value} {h : Heap} {m : Nat} {xs : List Value} {μ : Mu} {w : World} (he : evNew P info z xt x h = some (m, xs)) (hr : Rel μ h w) (hx : VR μ x x')
    (hz : VRL μ z.cells.toList z.cells.toList) (hzs : z.cells.size = info.size) : ∃ new, Nonempty (NewRun P info z xt x' w m new) ∧ VRL μ xs new.toList ∧ xs.length = m * info.size := by
  unfold evNew at he
  split at he
  · simp at he
  · rename_i hk
    obtain ⟨d, hd, hdk⟩ := Option.bind_eq_some_iff.1 hk
    split at he
    case h_2 => simp at he
    case h_1 l hl =>
    split at he
    case isFalse => simp at he
    case isTrue hb =>
    simp only [Option.some.injEq, Prod.mk.injEq] at he
    obtain ⟨rfl, rfl⟩ := he
    refine ⟨Builtin.zeroCells z.cells l.toNat, ⟨⟨d, hd, by simp [hdk], fun _ => ⟨l, fun w => evInt_asInt hl hx w, hb.1, hb.2, rfl, rfl⟩, fun h0 => by rw [hdk] at h0; cases h0⟩⟩, zeroCells_rel hz _, by rw [zeroCellsL_length]; simp [hzs]⟩
  · rename_i hk
    obtain ⟨d, hd, hdk⟩ := Option.bind_eq_some_iff.1 hk
    split at he
    case h_2 => simp at he
    case h_1 m0 hm0 =>
    split at he
    case h_2 => simp at he
    case h_1 xs0 hxs =>
    split at he
    case isFalse => simp at he
    case isTrue hlen =>
    simp only [Option.some.injEq, Prod.mk.injEq] at he
    obtain ⟨rfl, rfl⟩ := he
    obtain ⟨a, ha, hv⟩ := evElems_sound (P := P) hxs hr hx
    exact ⟨a, ⟨⟨d, hd, by simp [hdk], fun h0 => by (rw [hdk] at h0; cases h0), fun _ => ⟨fun w => evLen_sound hm0 hx w, ha⟩⟩⟩, hv, hlen⟩

theorem setAt_append : ∀ (vs old rest : List Value), vs.length ≤ rest.length → setAt (old ++ rest) old.length vs = old ++ (vs ++ rest.drop vs.length)
  | [], old, rest, _ => by simp
  | v :: vs, old, [], h => by simp at h
  | v :: vs, old, r :: rest, h => by
    simp only [setAt]
    have e : (old ++ r :: rest).set old.length v = (old ++ [v]) ++ rest := by simp
    rw [e]
    have := setAt_append vs (old ++ [v]) rest (by simpa using h)
    simp only [List.length_append, List.length_cons, List.length_nil, Nat.zero_add] at this
    rw [this]
    simp

theorem evAppend_sound {P : Program} (hP : ProgOk P) {st xt ty : TypeId} {s s' x x' r : Value} {h h' : Heap} {μ : Mu} {w : World} (he : evAppend P st xt s x h = some (r, h')) (hr : Rel μ h w) (hf : Fresh μ h)
    (hs : VR μ s s') (hx : VR μ x x') : Sound P (Builtin.append_ #[st, xt] ty #[s', x']) μ h w r h' := by
  unfold evAppend at he
  split at he
  case h_2 => simp at he
  case h_1 elem hd =>
  split at he
  case h_2 => simp at he
  case h_1 info hi =>
  split at he
  case h_2 => simp at he
  case h_1 z hz =>
  obtain ⟨hz, hzq⟩ := zeroC_spec hz
  split at he
  case h_2 => simp at he
  case h_1 m xs hnew =>
  split at he
  case isFalse => simp at he
  case isTrue hcnd =>
  obtain ⟨hzs, hpos, hby, hone⟩ := hcnd
  have hzc := (VR.closed (μ := μ) 8 z hzq).cells
  obtain ⟨new, ⟨hrun⟩, hvn, hxl⟩ := evNew_sound hnew hr hx hzc hzs
  have hnl := hvn.length
  simp only [Array.length_toList] at hnl
  -- a new row
  have grow : ∀ (base : Option Addr) (n C : Nat) (old : Array Value) (olds : List Value), VRL μ olds old.toList → olds.length = n * info.size → (∀ w' : World, w'.heap = w.heap → (Builtin.firstCells info.size n (.slice base n C)).run P w' = .ok old w') →
      C < n + m → n + m ≤ 2 ^ 32 → ∀ (h0 : Heap), Rel μ h0 w.drew → Fresh μ h0 → h0.nx = h.nx → Step μ μ h h0 w w.drew →
      Sound P (Builtin.append_ #[st, xt] ty #[.slice base n C, x']) μ h w (.slice (some ⟨h.nx, 0, none⟩) (n + m) (n + m)) (newRowH h0 .grow info.size (olds ++ xs)) := by
    intro base n C old olds hvo hol hfc hC hnm h0 hr0 hf0 hnx hst
    obtain ⟨cap, hcap, hrn⟩ := run_append_grow (ty := ty) hd hi hz hrun hfc hC hnm hby hpos hzs
    have hsize : (old ++ new ++ Builtin.zeroCells z.cells (cap - (n + m))).size = cap * info.size := by
      have ho := hvo.length
      simp only [Array.length_toList] at ho
      simp only [Array.size_append, Builtin.zeroCells, Array.size_map, Array.size_range, ← ho, ← hnl, hol, hxl, hzs]
      rw [← Nat.add_mul, ← Nat.add_mul]; congr 1; omega
    have hlen : (olds ++ xs).length = (n + m) * info.size := by simp [hol, hxl, Nat.add_mul]
    have hp := push_row hr0 hf0 .grow info.size (olds ++ xs) (old ++ new ++ Builtin.zeroCells z.cells (cap - (n + m))) elem (0, 0) (by
      have hc := hvo.append hvn
      have hl2 := hc.length
      simp only [Array.toList_append]
      rw [hl2, List.take_left']
      · exact hc
      · rfl) (by simp)
    rw [hsize, hlen] at hp
    refine ⟨_, _, _, hrn, hst.trans hf hp, ?_⟩
    have hb : upd μ h0.nx (some (⟨w.drew.heap.size, 0, (n + m) * info.size, cap * info.size, info.size, .grow⟩ : Loc)) h.nx = some ⟨w.drew.heap.size, 0, (n + m) * info.size, cap * info.size, info.size, .grow⟩ := by rw [hnx]; exact upd_same _ _ _
    exact .slice (i := 0) hb (.inr ⟨rfl, hcap, by simp, by simp⟩)
  have sd : Step μ μ h h w w.drew := Step.drew hr hf
  split at he
  · cases hs
    split at he
    · rename_i hm0
      subst hm0
      simp only [Option.some.injEq, Prod.mk.injEq] at he
      obtain ⟨rfl, rfl⟩ := he
      have hn0 : new = #[] := by
        have : new.size = 0 := by omega
        exact Array.eq_empty_of_size_eq_zero this
      exact ⟨_, w, μ, run_append_fit0 hd hi hz hrun (Nat.le_refl _) hn0, .refl hr hf, .nilSlice⟩
    · rename_i hm0
      split at he
      case isFalse => simp at he
      case isTrue hm32 =>
      simp only [Option.some.injEq, Prod.mk.injEq] at he
      obtain ⟨rfl, rfl⟩ := he
      have := grow none 0 0 #[] [] .nil (by simp) (fun _ _ => rfl) (by omega) (by omega) h sd.rel hf rfl sd
      simpa using this
  · cases hs with
    | empty0 a' =>
    split at he
    · rename_i hm0
      subst hm0
      simp only [Option.some.injEq, Prod.mk.injEq] at he
      obtain ⟨rfl, rfl⟩ := he
      have hn0 : new = #[] := by
        have : new.size = 0 := by omega
        exact Array.eq_empty_of_size_eq_zero this
      exact ⟨_, w, μ, run_append_fit0 hd hi hz hrun (Nat.le_refl _) hn0, .refl hr hf, .empty0 _⟩
    · rename_i hm0
      split at he
      case isFalse => simp at he
      case isTrue hm32 =>
      simp only [Option.some.injEq, Prod.mk.injEq] at he
      obtain ⟨rfl, rfl⟩ := he
      have := grow (some a') 0 0 #[] [] .nil (by simp) (fun _ _ => by simp [Builtin.firstCells, loadCells, loadCellsFrom]) (by omega) (by omega) h sd.rel hf rfl sd
      simpa using this
  · rename_i b i n c
    have hs0 := hs
    cases hs with
    | slice hb hc =>
    rename_i C m0
    split at he
    case h_2 => simp at he
    case h_1 k es cs hob =>
    have hrow := hr.obj b m0 _ hb hob
    obtain ⟨hmk, hme, hlen, hroom, arr, el, fr, hblk, hsz, hvl, hfz⟩ := id hrow
    have hcC : c ≤ C := by rcases hc with rfl | hc <;> omega
    split at he
    · rename_i hfit
      split at he
      · rename_i hm0
        subst hm0
        simp only [Option.some.injEq, Prod.mk.injEq] at he
        obtain ⟨rfl, rfl⟩ := he
        have hn0 : new = #[] := by
          have : new.size = 0 := by omega
          exact Array.eq_empty_of_size_eq_zero this
        exact ⟨_, w, μ, run_append_fit0 hd hi hz hrun (by omega) hn0, .refl hr hf, hs0⟩
      · split at he
        case isFalse => simp at he
        case isTrue hk =>
        obtain ⟨hkro, hle⟩ := hk
        simp only [Option.some.injEq, Prod.mk.injEq] at he
        obtain ⟨rfl, rfl⟩ := he
        have hns : new.size = m * info.size := by omega
        have hmul : (n + m) * info.size = n * info.size + m * info.size := Nat.add_mul _ _ _
        have hrf := run_append_fit (ty := ty) (o := m0.o + i) (n := n) (C := C) hd hi hz hrun (by omega) hpos hzs hby hblk (by omega) (hvn.oneCell hone) (hfz hkro)
        have hw := row_write hrow hblk hvn (i + n * info.size)
        rw [show m0.o + (i + n * info.size) = m0.o + i + n * info.size by omega] at hw
        exact ⟨_, _, μ, hrf, Step.put hr hf hb (by simp [hob]) (by rw [hmk]; exact hkro) (.row k es (setAt cs (i + n * info.size) xs)) _ hw, .slice hb hc⟩
    · rename_i hfit
      split at he
      case isFalse => simp at he
      case isTrue hcc =>
      obtain ⟨hnm, hnc, hle⟩ := hcc
      have hfc : ∃ old, (∀ w' : World, w'.heap = w.heap → (Builtin.firstCells info.size n (.slice (some ⟨m0.B, m0.o + i, none⟩) n C)).run P w' = .ok old w') ∧ VRL μ ((cs.drop i).take (n * info.size)) old.toList := by
        have hev : evElems info.size n (.slice (some ⟨b, i, none⟩) n c) h = some ((cs.drop i).take (n * info.size)) := by
          simp [evElems, hob, hle]
        exact evElems_sound hev hr hs0
      obtain ⟨old, hold, hvo⟩ := hfc
      have hol : ((cs.drop i).take (n * info.size)).length = n * info.size := by simp; omega
      split at he
      · rename_i hex
        simp only [Option.some.injEq, Prod.mk.injEq] at he
        obtain ⟨rfl, rfl⟩ := he
        have hCc : C = c := by
          rcases hc with rfl | ⟨hg, _, hend, _⟩
          · rfl
          · exfalso
            rw [hmk] at hg
            rw [hme, hlen] at hend
            simp [exactS, hg, hend] at hex
        subst hCc
        exact grow (some ⟨m0.B, m0.o + i, none⟩) n C old _ hvo hol hold (by omega) hnm h sd.rel hf rfl sd
      · rename_i hex
        split at he
        case isFalse => simp at he
        case isTrue hnes =>
        obtain ⟨hn, hes⟩ := hnes
        subst hn
        simp only [Option.some.injEq, Prod.mk.injEq] at he
        obtain ⟨rfl, rfl⟩ := he
        have hkg : k = .grow ∧ i + n * es = cs.length := by
          simpa [exactS] using hex
        by_cases hin : n + m ≤ C
        · -- in place
          have hC : i + C * es ≤ m0.room := by
            rcases hc with rfl | ⟨_, _, _, hrm⟩
            · omega
            · rw [hme] at hrm; exact hrm
          have hns : new.size = m * info.size := by omega
          have hmul : (n + m) * info.size = n * info.size + m * info.size := Nat.add_mul _ _ _
          have hCm : (n + m) * info.size ≤ C * info.size := Nat.mul_le_mul_right _ hin
          rw [hes] at hC
          have hkro : k ≠ .ro := by rw [hkg.1]; simp
          have hrf := run_append_fit (ty := ty) (o := m0.o + i) (n := n) (C := C) hd hi hz hrun hin hpos hzs hby hblk (by omega) (hvn.oneCell hone) (hfz hkro)
          let m' : Loc := ⟨m0.B, m0.o + i, (n + m) * info.size, m0.room - i, info.size, .grow⟩
          have hlt := hf.lt hb
          have hx' : Ext μ (upd μ h.nx (some m')) := fun b' m'' hb' => by
            have := hf.lt hb'
            rw [upd_other _ _ (by omega)]; exact hb'
          refine ⟨_, _, upd μ h.nx (some m'), hrf, ?_, .slice (i := 0) (m := m') (upd_same _ _ _) (.inr ⟨rfl, hin, by simp [m'], by simp [m']; omega⟩)⟩
          refine Step.regrow hr hf hb (by simp [hob]) (by rw [hmk]; exact hkro) m' rfl (.row .grow info.size ((cs.drop i).take (n * info.size) ++ xs)) _ ?_
          refine ⟨rfl, rfl, by simp [m', hol, hxl, hmul], by simp [m']; omega, _, _, _, setBlk_get hblk, by simp [m']; omega, ?_, fun _ => by simpa using hfz hkro⟩
          -- the cells
          have hw : (m0.o + i) + n * info.size + new.toList.length ≤ arr.toList.length := by simp; omega
          have e1 : arr.toList = arr.toList.take (m0.o + i + n * info.size) ++ arr.toList.drop (m0.o + i + n * info.size) := (List.take_append_drop _ _).symm
          have l1 : (arr.toList.take (m0.o + i + n * info.size)).length = m0.o + i + n * info.size := by simp; omega
          have e2 : setAt arr.toList (m0.o + i + n * info.size) new.toList = arr.toList.take (m0.o + i + n * info.size) ++ (new.toList ++ (arr.toList.drop (m0.o + i + n * info.size)).drop new.toList.length) := by
            have := setAt_append new.toList (arr.toList.take (m0.o + i + n * info.size)) (arr.toList.drop (m0.o + i + n * info.size)) (by simp; omega)
            rw [l1, ← e1] at this
            exact this
          have e3 : ((setAt arr.toList (m0.o + i + n * info.size) new.toList).drop (m0.o + i)).take ((n + m) * info.size) = (arr.toList.drop (m0.o + i)).take (n * info.size) ++ new.toList := by
            rw [e2, List.drop_append_of_le_length (by omega), List.drop_take, ← List.append_assoc]
            rw [show m0.o + i + n * info.size - (m0.o + i) = n * info.size by omega]
            apply List.take_left'
            simp; omega
          simp only [m', List.toList_toArray]
          rw [e3]
          refine VRL.append ?_ (hvn.mono hx')
          have := ((hvl.drop i).take (n * info.size)).mono hx'
          simp only [List.drop_take, List.drop_drop, List.take_take] at this
          rwa [Nat.min_eq_left (by omega)] at this
        · -- a new row
          have sk := Step.kill sd.rel hf b
          exact grow (some ⟨m0.B, m0.o + i, none⟩) n C old _ hvo hol hold (by omega) hnm (h.put b none) sk.rel sk.fresh rfl (sd.trans hf sk)
  · simp at he

/-! copy -/
def isSliceV : Value → Bool
  | .slice _ _ _ => true
  | _ => false
def evCopy (P : Program) (dt : TypeId) (dst src : Value) (h : Heap) : Option (Value × Heap) :=
  match P.underlying dt with
  | some (.slice elem) => match P.info? elem with
    | some info => match evLen dst, evLen src, isSliceV dst with
      | some dl, some sl, true => match evElems info.size (Nat.min sl dl) src h with
        | some xs =>
          if xs = [] then some (.int .i64 (Nat.min sl dl : Nat), h)
          else match dst with
            | .slice (some ⟨b, i, none⟩) _ _ => match h.obj b with
              | some (.row k es cs) =>
                if k ≠ .ro ∧ i + xs.length ≤ cs.length ∧ xs.all (fun v => v.oneCell') = true then some (.int .i64 (Nat.min sl dl : Nat), h.put b (some (.row k es (setAt cs i xs)))) else none
              | _ => none
            | _ => none
        | none => none
      | _, _, _ => none
    | none => none
  | _ => none
theorem evCopy_sound {P : Program} {dt st ty : TypeId} {dst dst' src src' r : Value} {h h' : Heap} {μ : Mu} {w : World} (he : evCopy P dt dst src h = some (r, h')) (hr : Rel μ h w) (hf : Fresh μ h)
    (hd : VR μ dst dst') (hs : VR μ src src') : Sound P (Builtin.copy_ #[dt, st] ty #[dst', src']) μ h w r h' := by
  unfold evCopy at he
  split at he
  case h_2 => simp at he
  case h_1 elem hdt =>
  split at he
  case h_2 => simp at he
  case h_1 info hi =>
  split at he
  case h_2 => simp at he
  case h_1 dl sl hdl hsl hsv =>
  split at he
  case h_2 => simp at he
  case h_1 xs hxs =>
  obtain ⟨a, ha, hva⟩ := evElems_sound (P := P) hxs hr hs
  have hsl' := evLen_sound (P := P) hsl hs w
  split at he
  · rename_i hxe
    subst hxe
    simp only [Option.some.injEq, Prod.mk.injEq] at he
    obtain ⟨rfl, rfl⟩ := he
    have ha0 : a.toList = [] := by cases hal : a.toList with | nil => rfl | cons v l => rw [hal] at hva; cases hva
    refine ⟨.int .i64 (Nat.min sl dl : Nat), w, μ, ?_, .refl hr hf, .int _ _⟩
    unfold evLen at hdl
    split at hdl
    · rename_i ad n c
      simp only [Option.some.injEq] at hdl; subst hdl
      have key : ∀ (base : Option Addr) (C : Nat), (Builtin.copy_ #[dt, st] ty #[.slice base n C, src']).run P w = .ok (.int .i64 (Nat.min sl n : Nat)) w := by
        intro base C
        cases base <;> simp [Builtin.copy_, run_underlying hdt, run_sizeOf hi, hsl', ha _ rfl, ha0, storeCells, goInt]
      cases hd <;> exact key _ _
    · simp [isSliceV] at hsv
    · simp at hdl
  · rename_i hxe
    split at he
    case h_2 => simp at he
    case h_1 b i n c =>
    cases hd with
    | slice hb hc =>
    rename_i C m
    split at he
    case h_2 => simp at he
    case h_1 k es cs hob =>
    split at he
    case isFalse => simp at he
    case isTrue hk =>
    simp only [Option.some.injEq, Prod.mk.injEq] at he
    obtain ⟨rfl, rfl⟩ := he
    simp only [evLen, Option.some.injEq] at hdl
    subst hdl
    have hrow := hr.obj b m _ hb hob
    obtain ⟨hmk, hme, hlen, hroom, arr, el, fr, hblk, hsz, hvl, hfz⟩ := id hrow
    have hal := hva.length
    have hst := run_storeCells_row (P := P) (o := m.o + i) a.toList 0 arr w hblk (by simp at hal ⊢; omega) (hva.oneCell hk.2.2) (hfz hk.1)
    simp only [Nat.add_zero] at hst
    exact ⟨.int .i64 (Nat.min sl n : Nat), _, μ, by simp [Builtin.copy_, run_underlying hdt, run_sizeOf hi, hsl', ha _ rfl, hst, goInt],
      Step.put hr hf hb (by simp [hob]) (by rw [hmk]; exact hk.1) (.row k es (setAt cs i xs)) _ (row_write hrow hblk hva i), .int _ _⟩
end Go.Proofs.Ytfehhihllenjiaa
