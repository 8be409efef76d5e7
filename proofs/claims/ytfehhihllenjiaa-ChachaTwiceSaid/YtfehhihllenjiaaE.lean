/- Operations: slices, append, copy. -/
import Derived.Test.YtfehhihllenjiaaD
set_option linter.all false
namespace Go.Proofs.Ytfehhihllenjiaa

def bnd (v : Value) (y : Nat) : Option Nat :=
  match evInt v with
  | some i => if 0 ≤ i ∧ i ≤ (y : Int) then some i.toNat else none
  | none => none
def evBounds0 (len cap : Nat) (lo hi mx : Option Value) : Option (Nat × Nat × Nat) :=
  match (match mx with | some v => bnd v cap | none => some cap) with
  | none => none
  | some m => match (match hi, mx with | some v, _ => bnd v m | none, none => some len | none, some _ => none) with
    | none => none
    | some hh => match (match lo with | some v => bnd v hh | none => some 0) with
      | none => none
      | some l => some (l, hh, m)
def evBounds (len cap : Nat) (lo hi mx : Option Value) : Option (Nat × Nat × Nat) :=
  match evBounds0 len cap lo hi mx with
  | some (l, hh, m) => if l ≤ hh ∧ hh ≤ m then some (l, hh, m) else none
  | none => none
theorem evBounds_of {len cap : Nat} {lo hi mx : Option Value} {l hh m : Nat} (he : evBounds len cap lo hi mx = some (l, hh, m)) : evBounds0 len cap lo hi mx = some (l, hh, m) ∧ l ≤ hh ∧ hh ≤ m := by
  unfold evBounds at he
  split at he
  · rename_i a b c h0
    split at he
    · rename_i hc
      simp only [Option.some.injEq, Prod.mk.injEq] at he
      obtain ⟨rfl, rfl, rfl⟩ := he
      exact ⟨h0, hc⟩
    · simp at he
  · simp at he

inductive ORel (μ : Mu) : Option Value → Option Value → Prop
  | none : ORel μ none none
  | some {v v' : Value} (h : VR μ v v') : ORel μ (some v) (some v')
theorem ORel.of_map {μ : Mu} {f g : Operand → Value} (o : Option Operand) (h : ∀ x, o = Option.some x → VR μ (f x) (g x)) : ORel μ (o.map f) (o.map g) := by
  cases o with
  | none => exact .none
  | some x => exact .some (h x rfl)

theorem bnd_sound {P : Program} {v v' : Value} {y y' n : Nat} {μ : Mu} (he : bnd v y = some n) (hv : VR μ v v') (hy : y ≤ y') (code : BoundsCode) (w : World) :
    (Instr.sliceBound v' y' code).run P w = .ok n w := by
  unfold bnd at he
  split at he
  case h_2 => simp at he
  case h_1 i hi =>
  split at he
  case isFalse => simp at he
  case isTrue h =>
  simp only [Option.some.injEq] at he
  obtain ⟨k, rfl, hk⟩ := evInt_run hi hv (P := P) w
  have : 0 ≤ i ∧ i ≤ (y' : Int) := ⟨h.1, by omega⟩
  simp [Instr.sliceBound, hk, this, he]
theorem bnd_le {v : Value} {y n : Nat} (he : bnd v y = some n) : n ≤ y := by
  unfold bnd at he
  split at he
  case h_2 => simp at he
  case h_1 i hi =>
  split at he
  case isFalse => simp at he
  case isTrue h => simp only [Option.some.injEq] at he; omega

theorem bounds_sound {P : Program} {len cap C : Nat} {lo hi mx lo' hi' mx' : Option Value} {l hh m : Nat} {μ : Mu} (he : evBounds len cap lo hi mx = some (l, hh, m)) (h1 : ORel μ lo lo') (h2 : ORel μ hi hi') (h3 : ORel μ mx mx') (hC : cap ≤ C) (b : Bool) (w : World) :
    (Instr.sliceBounds b len C lo' hi' mx').run P w = .ok (l, hh, if mx.isSome then m else C) w ∧ (mx.isSome = false → m = cap) := by
  replace he := (evBounds_of he).1
  unfold evBounds0 at he
  cases h3 with
  | none =>
    simp only at he
    cases h2 with
    | none =>
      simp only at he
      cases h1 with
      | none => simp only [Option.some.injEq, Prod.mk.injEq] at he; obtain ⟨rfl, rfl, rfl⟩ := he; simp [Instr.sliceBounds]
      | some hv =>
        split at he
        · simp at he
        · rename_i l1 hl
          simp only [Option.some.injEq, Prod.mk.injEq] at he
          obtain ⟨rfl, rfl, rfl⟩ := he
          simp [Instr.sliceBounds, bnd_sound (P := P) hl hv (Nat.le_refl _)]
    | some hv2 =>
      simp only at he
      split at he
      · simp at he
      · rename_i h0 hh0
        cases h1 with
        | none => simp only [Option.some.injEq, Prod.mk.injEq] at he; obtain ⟨rfl, rfl, rfl⟩ := he; simp [Instr.sliceBounds, bnd_sound (P := P) hh0 hv2 hC]
        | some hv =>
          split at he
          · simp at he
          · rename_i l1 hl
            simp only [Option.some.injEq, Prod.mk.injEq] at he
            obtain ⟨rfl, rfl, rfl⟩ := he
            simp [Instr.sliceBounds, bnd_sound (P := P) hl hv (Nat.le_refl _), bnd_sound (P := P) hh0 hv2 hC]
  | some hv3 =>
    simp only at he
    split at he
    · simp at he
    · rename_i m0 hm0
      cases h2 with
      | none => simp at he
      | some hv2 =>
        simp only at he
        split at he
        · simp at he
        · rename_i h0 hh0
          cases h1 with
          | none => simp only [Option.some.injEq, Prod.mk.injEq] at he; obtain ⟨rfl, rfl, rfl⟩ := he; simp [Instr.sliceBounds, bnd_sound (P := P) hm0 hv3 hC, bnd_sound (P := P) hh0 hv2 (Nat.le_refl _)]
          | some hv =>
            split at he
            · simp at he
            · rename_i l1 hl
              simp only [Option.some.injEq, Prod.mk.injEq] at he
              obtain ⟨rfl, rfl, rfl⟩ := he
              simp [Instr.sliceBounds, bnd_sound (P := P) hm0 hv3 hC, bnd_sound (P := P) hl hv (Nat.le_refl _), bnd_sound (P := P) hh0 hv2 (Nat.le_refl _)]

def evSliceArr (n size b i : Nat) (lo hi mx : Option Value) : Option Value :=
  match evBounds n n lo hi mx with
  | some (l, hh, m) => if m = l then some emptyS else some (.slice (some ⟨b, i + l * size, none⟩) (hh - l) (m - l))
  | none => none
def evSlice (P : Program) (t : TypeId) (x : Value) (lo hi mx : Option Value) (h : Heap) : Option Value :=
  match P.underlying t, x with
  | some (.array n elem), .pointer (some ⟨b, i, none⟩) => match P.info? elem with
    | some info => evSliceArr n info.size b i lo hi mx
    | none => none
  | some (.pointer arr), .pointer (some ⟨b, i, none⟩) => match P.underlying arr with
    | some (.array n elem) => match P.info? elem with
      | some info => evSliceArr n info.size b i lo hi mx
      | none => none
    | _ => none
  | some .string, .string s => match mx with
    | some _ => none
    | none => match evBounds s.size s.size lo hi none with
      | some (l, hh, _) => some (.string (s.extract l hh))
      | none => none
  | some (.slice elem), .slice none 0 0 => match P.info? elem with
    | some _ => match evBounds 0 0 lo hi mx with
      | some _ => some (.slice none 0 0)
      | none => none
    | none => none
  | some (.slice elem), .slice (some ⟨b, i, none⟩) n c => match P.info? elem, h.obj b with
    | some info, some (.row k es cs) => match evBounds n c lo hi mx with
      | some (l, hh, m) =>
        if m = l then (if mx.isSome then some emptyS else some anyS)
        else if k = .grow → es = info.size then some (.slice (some ⟨b, i + l * info.size, none⟩) (hh - l) (m - l)) else none
      | none => none
    | _, _ => none
  | some (.slice elem), .slice (some ⟨0, 0, some 0⟩) 0 0 => match P.info? elem with
    | some _ => match evBounds 0 0 lo hi mx with
      | some _ => some emptyS
      | none => none
    | none => none
  | some (.slice elem), .slice (some ⟨0, 0, some 1⟩) 0 0 => match P.info? elem with
    | some _ => match evBounds 0 0 lo hi mx with
      | some _ => some (if mx.isSome then emptyS else anyS)
      | none => none
    | none => none
  | _, _ => none

theorem evBounds_zero {lo hi mx : Option Value} {l hh m : Nat} (he : evBounds 0 0 lo hi mx = some (l, hh, m)) : l = 0 ∧ hh = 0 ∧ m = 0 := by
  replace he := (evBounds_of he).1
  unfold evBounds0 at he
  split at he
  · simp at he
  · rename_i m0 hm0
    have hm : m0 = 0 := by
      cases mx with
      | none => simpa using hm0.symm
      | some v => have := bnd_le hm0; omega
    split at he
    · simp at he
    · rename_i h0 hh0
      have hh1 : h0 = 0 := by
        cases hi with
        | none => cases mx with
          | none => simpa using hh0.symm
          | some v => simp at hh0
        | some v => have := bnd_le hh0; omega
      split at he
      · simp at he
      · rename_i l0 hl0
        have hl : l0 = 0 := by
          cases lo with
          | none => simpa using hl0.symm
          | some v => have := bnd_le hl0; omega
        simp only [Option.some.injEq, Prod.mk.injEq] at he
        omega

theorem evSliceArr_sound {P : Program} {n size b i : Nat} {lo hi mx lo' hi' mx' : Option Value} {r : Value} {μ : Mu} {m : Loc} (he : evSliceArr n size b i lo hi mx = some r) (hb : μ b = some m)
    (h1 : ORel μ lo lo') (h2 : ORel μ hi hi') (h3 : ORel μ mx mx') (w : World) :
    ∃ l hh mm, (Instr.sliceBounds false n n lo' hi' mx').run P w = .ok (l, hh, mm) w ∧
      VR μ r (.slice (some (if mm = l then ⟨m.B, m.o + i, none⟩ else ⟨m.B, m.o + i + l * size, none⟩)) (hh - l) (mm - l)) := by
  unfold evSliceArr at he
  split at he
  case h_2 => simp at he
  case h_1 l hh mm hbd =>
  obtain ⟨hrun, hcap⟩ := bounds_sound (P := P) hbd h1 h2 h3 (Nat.le_refl n) false w
  have e : (if mx.isSome then mm else n) = mm := by
    cases hmx : mx.isSome with
    | true => rfl
    | false => simpa using (hcap hmx).symm
  rw [e] at hrun
  refine ⟨l, hh, mm, hrun, ?_⟩
  split at he
  · rename_i hml
    simp only [Option.some.injEq] at he
    subst he
    have hle := (evBounds_of hbd).2
    have hhl : hh - l = 0 := by omega
    simp only [hml, if_true, hhl, Nat.sub_self]
    exact .empty0 _
  · rename_i hml
    simp only [Option.some.injEq] at he
    subst he
    simp only [hml, if_false]
    have := VR.slice (μ := μ) (n := hh - l) (c := mm - l) (C := mm - l) (i := i + l * size) hb (.inl rfl)
    simpa [Nat.add_assoc] using this

theorem evSlice_sound {P : Program} {t : TypeId} {x x' : Value} {lo hi mx lo' hi' mx' : Option Value} {r : Value} {h : Heap} {μ : Mu} {w : World} (he : evSlice P t x lo hi mx h = some r) (hr : Rel μ h w) (hx : VR μ x x')
    (h1 : ORel μ lo lo') (h2 : ORel μ hi hi') (h3 : ORel μ mx mx') : ∃ r', (Instr.sliceAt t x' lo' hi' mx').run P w = .ok r' w ∧ VR μ r r' := by
  unfold evSlice at he
  split at he
  · rename_i n elem b i hd
    cases hx with
    | ptr hb =>
    rename_i m
    split at he
    case h_2 => simp at he
    case h_1 info hin =>
    obtain ⟨l, hh, mm, hrun, hv⟩ := evSliceArr_sound (P := P) he hb h1 h2 h3 w
    exact ⟨_, by simp only [Instr.sliceAt, Sem.run_bind, run_underlying hd, Result.andThen_ok, Instr.sureAddr, Sem.run_pure, hrun, run_sizeOf hin, addr_add], hv⟩
  · rename_i arr b i hd
    cases hx with
    | ptr hb =>
    rename_i m
    split at he
    case h_2 => simp at he
    case h_1 n elem hd2 =>
    split at he
    case h_2 => simp at he
    case h_1 info hin =>
    obtain ⟨l, hh, mm, hrun, hv⟩ := evSliceArr_sound (P := P) he hb h1 h2 h3 w
    exact ⟨_, by simp only [Instr.sliceAt, Instr.slice, Sem.run_bind, run_underlying hd, run_underlying hd2, Result.andThen_ok, asAddr, Sem.run_pure, hrun, run_sizeOf hin, addr_add], hv⟩
  · rename_i s hd
    cases hx
    split at he
    · simp at he
    · cases h3
      split at he
      · rename_i l hh m hbd
        simp only [Option.some.injEq] at he
        subst he
        obtain ⟨hrun, hcap⟩ := bounds_sound (P := P) hbd h1 h2 .none (Nat.le_refl _) false w
        exact ⟨_, by simp only [Instr.sliceAt, Instr.slice, Sem.run_bind, run_underlying hd, Result.andThen_ok, Option.isSome_none, Bool.false_eq_true, if_false, Sem.run_pure, hrun], .string _⟩
      · simp at he
  · rename_i elem hd
    cases hx
    split at he
    case h_2 => simp at he
    case h_1 info hin =>
    split at he
    case h_2 => simp at he
    case h_1 r0 hbd =>
    obtain ⟨l, hh, m⟩ := r0
    simp only [Option.some.injEq] at he
    subst he
    obtain ⟨rfl, rfl, rfl⟩ := evBounds_zero hbd
    obtain ⟨hrun, hcap⟩ := bounds_sound (P := P) hbd h1 h2 h3 (Nat.le_refl _) true w
    have e : (if mx.isSome then 0 else 0) = 0 := by split <;> rfl
    rw [e] at hrun
    exact ⟨.slice none 0 0, by simp only [Instr.sliceAt, Instr.slice, Sem.run_bind, run_underlying hd, Result.andThen_ok, hrun, run_sizeOf hin, Sem.run_pure, Nat.sub_self, if_true], .nilSlice⟩
  · rename_i elem b i n c hd
    cases hx with
    | slice hb hc =>
    rename_i C m0
    split at he
    case h_2 => simp at he
    case h_1 info k es cs hin hob =>
    split at he
    case h_2 => simp at he
    case h_1 l hh m hbd =>
    have hle := (evBounds_of hbd).2
    have hcC : c ≤ C := by rcases hc with rfl | hc <;> omega
    obtain ⟨hrun, hcap⟩ := bounds_sound (P := P) hbd h1 h2 h3 hcC true w
    have hrow := hr.obj b m0 _ hb hob
    obtain ⟨hmk, hme, hlen, hroom, arr, el, fr, hblk, hsz, hvl, hfz⟩ := id hrow
    refine ⟨.slice (some (if (if mx.isSome then m else C) = l then ⟨m0.B, m0.o + i, none⟩ else ⟨m0.B, m0.o + i + l * info.size, none⟩)) (hh - l) ((if mx.isSome then m else C) - l), ?_, ?_⟩
    · simp only [Instr.sliceAt, Instr.slice, Sem.run_bind, run_underlying hd, Result.andThen_ok, hrun, run_sizeOf hin, Sem.run_pure, Option.map_some, addr_add]
      (repeat' split) <;> rfl
    · cases hmx : mx.isSome with
      | true =>
        simp only [if_true]
        split at he
        · rename_i hml
          simp only [hmx, if_true, Option.some.injEq] at he
          subst he
          have e1 : hh - l = 0 := by omega
          simp only [hml, if_true, Nat.sub_self, e1]
          exact .empty0 _
        · rename_i hml
          split at he
          case isFalse => simp at he
          case isTrue hk =>
          simp only [Option.some.injEq] at he
          subst he
          simp only [hml, if_false]
          have := VR.slice (μ := μ) (n := hh - l) (c := m - l) (C := m - l) (i := i + l * info.size) hb (.inl rfl)
          simpa [Nat.add_assoc] using this
      | false =>
        have hmc := hcap hmx
        subst hmc
        simp only [Bool.false_eq_true, if_false]
        split at he
        · rename_i hml
          simp only [hmx, Bool.false_eq_true, if_false, Option.some.injEq] at he
          subst he
          have e1 : hh - l = 0 := by omega
          rw [e1]
          exact .emptyAny _ _
        · rename_i hml
          split at he
          case isFalse => simp at he
          case isTrue hk =>
          simp only [Option.some.injEq] at he
          subst he
          have hCl : ¬ C = l := by omega
          simp only [hCl, if_false]
          have hco : CapOk m0 (i + l * info.size) (m - l) (C - l) := by
            rcases hc with rfl | ⟨hg, hcC', hend, hroomC⟩
            · exact .inl rfl
            · have hes : m0.es = info.size := by rw [hme]; exact hk (by rw [← hmk]; exact hg)
              refine .inr ⟨hg, by omega, ?_, ?_⟩
              · rw [hes] at hend ⊢
                have : (m - l) * info.size = m * info.size - l * info.size := Nat.sub_mul _ _ _
                have : l * info.size ≤ m * info.size := Nat.mul_le_mul_right _ (by omega)
                omega
              · rw [hes] at hroomC ⊢
                have : (C - l) * info.size = C * info.size - l * info.size := Nat.sub_mul _ _ _
                have : l * info.size ≤ C * info.size := Nat.mul_le_mul_right _ (by omega)
                omega
          have := VR.slice (μ := μ) (n := hh - l) (c := m - l) (C := C - l) (i := i + l * info.size) hb hco
          simpa [Nat.add_assoc] using this
  · rename_i elem hd
    cases hx with
    | empty0 a' =>
    split at he
    case h_2 => simp at he
    case h_1 info hin =>
    split at he
    case h_2 => simp at he
    case h_1 r0 hbd =>
    obtain ⟨l, hh, m⟩ := r0
    simp only [Option.some.injEq] at he
    subst he
    obtain ⟨rfl, rfl, rfl⟩ := evBounds_zero hbd
    obtain ⟨hrun, hcap⟩ := bounds_sound (P := P) hbd h1 h2 h3 (Nat.le_refl _) true w
    have e : (if mx.isSome then 0 else 0) = 0 := by split <;> rfl
    rw [e] at hrun
    exact ⟨.slice (some a') 0 0, by simp only [Instr.sliceAt, Instr.slice, Sem.run_bind, run_underlying hd, Result.andThen_ok, hrun, run_sizeOf hin, Sem.run_pure, Nat.sub_self, if_true], .empty0 _⟩
  · rename_i elem hd
    cases hx with
    | emptyAny a' C =>
    split at he
    case h_2 => simp at he
    case h_1 info hin =>
    split at he
    case h_2 => simp at he
    case h_1 r0 hbd =>
    obtain ⟨l, hh, m⟩ := r0
    simp only [Option.some.injEq] at he
    subst he
    obtain ⟨rfl, rfl, rfl⟩ := evBounds_zero hbd
    obtain ⟨hrun, hcap⟩ := bounds_sound (P := P) hbd h1 h2 h3 (Nat.zero_le C) true w
    refine ⟨.slice (some a') 0 ((if mx.isSome then 0 else C) - 0), ?_, ?_⟩
    · simp only [Instr.sliceAt, Instr.slice, Sem.run_bind, run_underlying hd, Result.andThen_ok, hrun, run_sizeOf hin, Sem.run_pure, Nat.sub_self, Nat.zero_mul, Option.map_some, Nat.sub_zero]
      split
      · rfl
      · simp [Addr.add]
    · cases hmx : mx.isSome with
      | true => simp only [if_true]; exact .empty0 _
      | false => simp only [Bool.false_eq_true, if_false]; exact .emptyAny _ _
  · simp at he
end Go.Proofs.Ytfehhihllenjiaa
