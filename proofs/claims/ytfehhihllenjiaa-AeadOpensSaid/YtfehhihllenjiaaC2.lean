/- Equality and conversions: sound. -/
import Derived.Test.YtfehhihllenjiaaC1
import Derived.AtR
import Derived.RangeFuncLeaves
import Derived.Orders
set_option linter.all false
namespace Go.Proofs.Ytfehhihllenjiaa

def tagV : Value → Nat
  | .bool _ => 0
  | .pointer _ => 1
  | .slice _ _ _ => 2
  | .map _ => 3
  | .func _ _ _ | .nilFunc => 4
  | .iface _ _ | .nilIface => 5
  | .agg _ => 6
  | .int _ _ => 7
  | .string _ => 8
  | _ => 9
theorem VR.tag {μ : Mu} {v v' : Value} (h : VR μ v v') : tagV v' = tagV v := by cases h <;> rfl
theorem evEq_tag {P : Program} {d : Nat} {t : TypeId} {x y : Value} {r : Bool} (h : evEq P d t x y = some r) : tagV x = tagV y ∧ tagV x ≤ 8 := by
  cases d with
  | zero => simp [evEq] at h
  | succ d =>
    unfold evEq at h
    split at h <;> first | (simp at h; done) | exact ⟨rfl, by simp [tagV]⟩
theorem binOp_eql {x y : Value} (t : TypeId) (h : tagV x = tagV y) (h6 : tagV x ≤ 6) : binOp .eql t x y = (do pure (.bool (← Op.equal t x y))) := by
  cases x <;> first
    | (simp [tagV] at h6; done)
    | (cases y <;> first | rfl | (simp [tagV] at h; done))
theorem binOp_neq {x y : Value} (t : TypeId) (h : tagV x = tagV y) (h6 : tagV x ≤ 6) : binOp .neq t x y = (do pure (.bool (!(← Op.equal t x y)))) := by
  cases x <;> first
    | (simp [tagV] at h6; done)
    | (cases y <;> first | rfl | (simp [tagV] at h; done))

theorem eqGuard_run {P : Program} {op : BinOp} {t : TypeId} {X Y : Operand} {x y x' y' : Value} {μ : Mu} {w : World} (hx : VR μ x x') (hy : VR μ y y')
    (hok : eqOk P t (Region.isConst X || Region.isConst Y) x y = true) : (eqGuard op t X Y x' y').run P w = .ok () w := by
  unfold eqGuard
  by_cases hop : (match op with | .eql | .neq => true | _ => false) = true
  · cases hx with
    | nilIface =>
      cases hy with
      | nilIface =>
        have hl : (Region.isConst X || Region.isConst Y) = true := by simpa [eqOk] using hok
        cases op <;> first | rfl | skip
        all_goals (cases X <;> cases Y <;> first | rfl | (simp [Region.isConst] at hl))
      | _ => cases op <;> rfl
    | agg hc =>
      cases hy with
      | agg hc' =>
        have hg : P.eqGuardType P.depth t = false := by simpa [eqOk] using hok
        cases op <;> first | rfl | (simp [hg])
      | _ => cases op <;> rfl
    | _ => cases op <;> (cases hy <;> rfl)
  · cases op <;> first | rfl | (simp at hop)

theorem evBin_sound {P : Program} {op : BinOp} {t : TypeId} {X Y : Operand} {x y x' y' r : Value} {μ : Mu} {w : World} (h : evBin P op t (Region.isConst X || Region.isConst Y) x y = some r) (hx : VR μ x x') (hy : VR μ y y') :
    ((do eqGuard op t X Y x' y'; binOp op t x' y') : Sem Value).run P w = .ok r w ∧ VR μ r r := by
  unfold evBin at h
  split at h
  · rename_i k a k' b
    cases hx; cases hy
    have hg : (eqGuard op t X Y (.int k a) (.int k' b)).run P w = .ok () w := eqGuard_plain op t X Y _ _ w (.inl ⟨_, _, _, _, rfl, rfl⟩)
    simp only [Sem.run_bind, hg, Result.andThen_ok]
    split at h
    · exact ⟨evShift_run h t w, by
        unfold evShift at h
        split at h
        · simp at h
        · simp only [Option.some.injEq] at h; subst h; exact .int _ _⟩
    · exact ⟨evShift_run h t w, by
        unfold evShift at h
        split at h
        · simp at h
        · simp only [Option.some.injEq] at h; subst h; exact .int _ _⟩
    · rename_i op' h1 h2
      split at h
      case isFalse => simp at h
      case isTrue hk =>
      subst hk
      refine ⟨evIntOp_run h t w (fun e => h1 e) (fun e => h2 e), ?_⟩
      cases op <;> simp only [evIntOp, Option.some.injEq, reduceCtorEq] at h <;> first
        | (subst h; first | exact .int _ _ | exact .bool _)
        | (split at h
           · simp at h
           · simp only [Option.some.injEq] at h; subst h; exact .int _ _)
  · rename_i a b
    cases hx; cases hy
    have hg : (eqGuard op t X Y (.string a) (.string b)).run P w = .ok () w := eqGuard_plain op t X Y _ _ w (.inr ⟨_, _, rfl, rfl⟩)
    simp only [Sem.run_bind, hg, Result.andThen_ok]
    refine ⟨evStrOp_run h t w, ?_⟩
    cases op <;> simp only [evStrOp, Option.some.injEq, reduceCtorEq] at h <;> first
      | (subst h; exact .bool _)
      | (split at h
         · simp only [Option.some.injEq] at h; subst h; exact .string _
         · simp at h)
  · rename_i hni hns
    have main : ∀ r, eqOk P t (Region.isConst X || Region.isConst Y) x y = true → evEq P Op.maxDepth t x y = some r → (eqGuard op t X Y x' y').run P w = .ok () w ∧ (Op.equal t x' y').run P w = .ok r w ∧ tagV x' = tagV y' ∧ tagV x' ≤ 6 := by
      intro r hok he
      have ht := evEq_tag he
      refine ⟨eqGuard_run hx hy hok, evEq_sound _ _ _ _ _ _ _ he hx hy, by rw [hx.tag, hy.tag]; exact ht.1, ?_⟩
      rw [hx.tag]
      have h7 : tagV x ≠ 7 := fun e => by
        have e2 := ht.1.symm.trans e
        cases x <;> first | (simp [tagV] at e; done) | skip
        cases y <;> first | (simp [tagV] at e2; done) | skip
        exact hni _ _ _ _ rfl rfl
      have h8 : tagV x ≠ 8 := fun e => by
        have e2 := ht.1.symm.trans e
        cases x <;> first | (simp [tagV] at e; done) | skip
        cases y <;> first | (simp [tagV] at e2; done) | skip
        exact hns _ _ rfl rfl
      omega
    split at h
    · split at h
      case isFalse => simp at h
      case isTrue hok =>
      obtain ⟨b, hb, rfl⟩ := Option.map_eq_some_iff.1 h
      obtain ⟨m1, m2, m3, m4⟩ := main b hok hb
      exact ⟨by simp only [Sem.run_bind, m1, Result.andThen_ok, binOp_eql t m3 m4, m2, Sem.run_pure], .bool _⟩
    · split at h
      case isFalse => simp at h
      case isTrue hok =>
      obtain ⟨b, hb, rfl⟩ := Option.map_eq_some_iff.1 h
      obtain ⟨m1, m2, m3, m4⟩ := main b hok hb
      exact ⟨by simp only [Sem.run_bind, m1, Result.andThen_ok, binOp_neq t m3 m4, m2, Sem.run_pure], .bool _⟩
    · simp at h

/-! unary -/
def evUn (op : UnOp) (x : Value) : Option Value :=
  match op, x with
  | .neg, .int k n => some (.int k (k.wrap (0 - n)))
  | .xor, .int k n => evIntOp .xor k (if k.signed then -1 else k.max) n
  | .not, .bool b => some (.bool !b)
  | _, _ => none
theorem evUn_sound {P : Program} {op : UnOp} {x x' r : Value} {μ : Mu} {w : World} (h : evUn op x = some r) (hx : VR μ x x') : (Op.unary op x').run P w = .ok r w ∧ VR μ r r := by
  unfold evUn at h
  split at h
  · cases hx; simp only [Option.some.injEq] at h; subst h; exact ⟨rfl, .int _ _⟩
  · cases hx; simp only [evIntOp, Option.some.injEq] at h; subst h; exact ⟨rfl, .int _ _⟩
  · cases hx; simp only [Option.some.injEq] at h; subst h; exact ⟨rfl, .bool _⟩
  · simp at h

/-! conversions -/
def bytesOf : List Value → Option (List UInt8)
  | [] => some []
  | .int .u8 n :: l => (bytesOf l).map fun r => UInt8.ofNat n.toNat :: r
  | _ => none
def evConvert (P : Program) (src dst : TypeId) (x : Value) (h : Heap) : Option (Value × Heap) :=
  match P.underlying src, P.underlying dst, x with
  | some _, some (.int k), .int _ n => some (.int k (k.wrap n), h)
  | some _, some .string, .string s => some (.string s, h)
  | some _, some (.slice e), .string s => match P.underlying e with
    | some (.int .u8) =>
      if s.size = 0 then some (anyS, h)
      else if s.size ≤ 2 ^ 40 then some (.slice (some ⟨h.nx, 0, none⟩) s.size s.size, newRowH h .grow 1 (s.data.toList.map fun b => .int .u8 b.toNat)) else none
    | _ => none
  | some (.slice e), some .string, .slice a n c => match P.underlying e with
    | some (.int .u8) => match evElems 1 n (.slice a n c) h with
      | some xs => (bytesOf xs).map fun l => (.string ⟨l.toArray⟩, h)
      | none => none
    | _ => none
  | some (.slice e), some (.slice _), .slice (some ⟨b, i, none⟩) n c =>
    if src = dst then match P.underlying e, h.obj b with
      | some (.int .u8), some (.row .rw _ _) => some (.slice (some ⟨b, i, none⟩) n c, h)
      | _, _ => none
    else none
  | _, _, _ => none

theorem run_bytes {P : Program} {μ : Mu} {w : World} {b : Value → ByteArray → Sem (ForInStep ByteArray)} (hb : ∀ n s, b (.int .u8 n) s = pure (.yield (s.push (UInt8.ofNat n.toNat)))) :
    ∀ (xs xs' : List Value) (l : List UInt8) (s : ByteArray), bytesOf xs = some l → VRL μ xs xs' → (forIn xs' s b : Sem ByteArray).run P w = .ok ⟨s.data ++ l.toArray⟩ w
  | _, _, l, s, h, .nil => by simp [bytesOf] at h; subst h; simp
  | x :: xs, x' :: xs', l, s, h, .cons hv t => by
    unfold bytesOf at h
    split at h
    · rename_i heq; cases heq
    · rename_i n l0 heq
      cases heq
      cases hv
      obtain ⟨r, hr, rfl⟩ := Option.map_eq_some_iff.1 h
      simp only [List.forIn_cons, hb, Sem.run_bind, Sem.run_pure, Result.andThen_ok]
      rw [run_bytes hb xs xs' r _ hr t]
      simp [ByteArray.push]
    · simp at h

theorem freeze_alloc (w : World) (A : Array Value) (e : TypeId) (n : Nat) : (w.alloc (.cells A e)).freeze ⟨w.heap.size, n, none⟩ 1 = w.alloc (.cells A e (n, n + 1)) := by
  unfold World.freeze World.alloc
  simp only [Nat.one_ne_zero, if_false]
  congr 1
  apply Array.ext_getElem?
  intro i
  rw [Array.getElem?_modify]
  by_cases hi : i = w.heap.size
  · subst hi; simp
  · rw [if_neg (Ne.symm hi), Array.getElem?_push, Array.getElem?_push, if_neg hi, if_neg hi]

theorem run_string_bytes {P : Program} {src dst e : TypeId} {sd : TypeDesc} {s : ByteArray} {w : World} (hs : P.underlying src = some sd) (hd : P.underlying dst = some (.slice e)) (hu : P.underlying e = some (.int .u8)) :
    ∃ cap, s.size ≤ cap ∧ ∃ A : Array Value, A.size = cap ∧ A.toList.take s.size = s.data.toList.map (fun b => Value.int .u8 b.toNat) ∧
      (convert src dst (.string s)).run P w = .ok (.slice (some ⟨w.heap.size, 0, none⟩) s.size cap) (w.drew.alloc (.cells A e (cap, cap + 1))) := by
  have hcap : s.size ≤ s.size + (w.tape w.drawn (.appendCap s.size 0 e)) % (2 ^ 63 - s.size) := by omega
  generalize hC : s.size + (w.tape w.drawn (.appendCap s.size 0 e)) % (2 ^ 63 - s.size) = cap at hcap
  have hss : s.data.size = s.size := rfl
  refine ⟨cap, hcap, (s.data.map fun b => Value.int .u8 b.toNat) ++ Array.replicate (cap - s.size) (.int .u8 0), by simp [hss]; omega, ?_, ?_⟩
  · simp only [Array.toList_append, Array.toList_map]
    rw [List.take_left']
    simp [hss]
  · generalize hAe : ((s.data.map fun b => Value.int .u8 b.toNat) ++ Array.replicate (cap - s.size) (.int .u8 0)) = A
    have hA : A.size = cap := by rw [← hAe]; simp [hss]; omega
    refine (Sem.run_bind P w (underlying src) _).trans ?_
    rw [run_underlying hs, Result.andThen_ok]
    refine (Sem.run_bind P w (underlying dst) _).trans ?_
    rw [run_underlying hd, Result.andThen_ok]
    refine (Sem.run_bind P w (underlying e) _).trans ?_
    rw [run_underlying hu, Result.andThen_ok]
    simp [Conv.stringToBytes, Question.forced, Question.cut, newRow, hC, markStringish]
    rw [hAe]
    have hsh : (w.drew.alloc (.cells A e)).shape? w.heap.size = some (e, cap) := by
      have : (w.drew.alloc (.cells A e)).heap[w.heap.size]? = some (.cells A e) := alloc_get w.drew _
      unfold World.shape?
      rw [this]
      simp [hA]
    rw [hsh]
    simp only [run_freeze, Result.andThen_ok]
    rw [show (⟨w.heap.size, cap, none⟩ : Addr) = ⟨w.drew.heap.size, cap, none⟩ from rfl, freeze_alloc]

theorem mark_step {μ : Mu} {h : Heap} {w : World} (hr : Rel μ h w) (hf : Fresh μ h) {b es : Nat} {m : Loc} {cs : List Value} (hb : μ b = some m) (ho : h.obj b = some (.row .rw es cs)) :
    ∃ w' : World, (∃ el k, w.shape? m.B = some (el, k) ∧ w' = w.freeze ⟨m.B, k, none⟩ 1) ∧ Step μ μ h h w w' := by
  obtain ⟨h1, h2, h3, h4, arr, el, fr, h5, h6, h7, h8⟩ := hr.obj b m _ hb ho
  obtain ⟨hle, h9⟩ := h8 (by decide)
  have hlt : m.B < w.heap.size := (Array.getElem?_eq_some_iff.1 h5).1
  have hw : w.freeze ⟨m.B, arr.size, none⟩ 1 = w.setBlk m.B (.cells arr el (if fr.1 == fr.2 then (arr.size, arr.size + 1) else (min fr.1 arr.size, max fr.2 (arr.size + 1)))) := by
    unfold World.freeze World.setBlk
    rw [if_neg (by decide)]
    congr 1
    apply Array.ext_getElem?
    intro j
    by_cases hj : j = m.B
    · subst hj
      have he : w.heap[m.B] = .cells arr el fr := (Array.getElem?_eq_some_iff.1 h5).2
      rw [Array.getElem?_modify, if_pos rfl, Array.getElem?_setIfInBounds_self_of_lt hlt, h5]
      rfl
    · rw [Array.getElem?_modify, if_neg (Ne.symm hj), Array.getElem?_setIfInBounds_ne (Ne.symm hj)]
  refine ⟨_, ⟨el, arr.size, by unfold World.shape?; rw [h5], rfl⟩, ?_⟩
  rw [hw]
  have key := Step.put hr hf hb (by rw [ho]; rfl) (by rw [h1]; decide) (.row .rw es cs) (.cells arr el (if fr.1 == fr.2 then (arr.size, arr.size + 1) else (min fr.1 arr.size, max fr.2 (arr.size + 1))))
    ⟨h1, h2, h3, h4, arr, el, _, setBlk_get h5, h6, h7, fun _ => by
      by_cases e : fr.1 = fr.2
      · simp only [e, beq_self_eq_true, if_true]
        exact ⟨Nat.le_succ _, fun j hj hh => by omega⟩
      · have e2 : (fr.1 == fr.2) = false := by simpa using e
        simp only [e2, Bool.false_eq_true, if_false]
        have hge : arr.size ≤ fr.1 := by
          rcases Nat.lt_or_ge fr.1 arr.size with hl | hl
          · exact absurd ⟨Nat.le_refl _, by omega⟩ (h9 fr.1 hl)
          · exact hl
        exact ⟨by omega, fun j hj hh => by omega⟩⟩
  have heq : h.put b (some (.row .rw es cs)) = h := by
    unfold Heap.put
    congr 1
    funext x
    by_cases e : x = b
    · subst e; rw [upd_same, ho]
    · rw [upd_other _ _ e]
  rw [heq] at key
  exact key
theorem run_convert_same {P : Program} {t e : TypeId} {w w' : World} {B o n c : Nat} (ht : P.underlying t = some (.slice e)) (he : P.underlying e = some (.int .u8))
    (hw : ∃ el k, w.shape? B = some (el, k) ∧ w' = w.freeze ⟨B, k, none⟩ 1) :
    (convert t t (.slice (some ⟨B, o, none⟩) n c)).run P w = .ok (.slice (some ⟨B, o, none⟩) n c) w' := by
  obtain ⟨el, k, h1, rfl⟩ := hw
  simp [convert, run_underlying ht, run_underlying he, markStringish, h1]

theorem evConvert_sound {P : Program} {src dst : TypeId} {x x' r : Value} {h h' : Heap} {μ : Mu} {w : World} (he : evConvert P src dst x h = some (r, h')) (hr : Rel μ h w) (hf : Fresh μ h) (hx : VR μ x x') :
    Sound P (convert src dst x') μ h w r h' := by
  unfold evConvert at he
  split at he
  · rename_i sd k k0 n hs hd
    cases hx
    simp only [Option.some.injEq, Prod.mk.injEq] at he
    obtain ⟨rfl, rfl⟩ := he
    refine ⟨.int k (k.wrap n), w, μ, ?_, .refl hr hf, .int _ _⟩
    refine (Sem.run_bind P w (underlying src) _).trans ?_
    rw [run_underlying hs, Result.andThen_ok]
    refine (Sem.run_bind P w (underlying dst) _).trans ?_
    rw [run_underlying hd, Result.andThen_ok]
    rfl
  · rename_i sd s hs hd
    cases hx
    simp only [Option.some.injEq, Prod.mk.injEq] at he
    obtain ⟨rfl, rfl⟩ := he
    refine ⟨.string s, w, μ, ?_, .refl hr hf, .string _⟩
    refine (Sem.run_bind P w (underlying src) _).trans ?_
    rw [run_underlying hs, Result.andThen_ok]
    refine (Sem.run_bind P w (underlying dst) _).trans ?_
    rw [run_underlying hd, Result.andThen_ok]
    rfl
  · rename_i sd e s hs hd
    cases hx
    split at he
    case h_2 => simp at he
    case h_1 hu =>
    obtain ⟨cap, hcap, A, hA, hAt, hrun⟩ := run_string_bytes (w := w) hs hd hu
    split at he
    · rename_i hs0
      simp only [Option.some.injEq, Prod.mk.injEq] at he
      obtain ⟨rfl, rfl⟩ := he
      have sd := Step.drew hr hf
      have sa := alloc_none sd.rel hf (.cells A e (cap, cap + 1))
      rw [hs0] at hrun
      exact ⟨_, _, μ, hrun, sd.trans hf sa, .emptyAny _ _⟩
    · rename_i hs0
      split at he
      case isFalse => simp at he
      case isTrue hs40 =>
      simp only [Option.some.injEq, Prod.mk.injEq] at he
      obtain ⟨rfl, rfl⟩ := he
      have sd := Step.drew hr hf
      have hl : (s.data.toList.map fun b => Value.int .u8 b.toNat).length = s.size := by simp
      have hp := push_row sd.rel hf .grow 1 (s.data.toList.map fun b => .int .u8 b.toNat) A e (cap, cap + 1) (by
        rw [hl, hAt]
        have := VRL.ints (μ := μ) (s.data.toList.map fun b => (b.toNat : Int))
        rw [List.map_map] at this
        exact this) (by omega)
      rw [hl, hA] at hp
      exact ⟨_, _, _, hrun, sd.trans hf hp, .slice (i := 0) (upd_same _ _ _) (.inr ⟨rfl, hcap, by simp, by simp⟩)⟩
  · rename_i e a n c hs hd
    split at he
    case h_2 => simp at he
    case h_1 hu =>
    split at he
    case h_2 => simp at he
    case h_1 xs hxs =>
    obtain ⟨l, hl, he⟩ := Option.map_eq_some_iff.1 he
    simp only [Prod.mk.injEq] at he
    obtain ⟨rfl, rfl⟩ := he
    obtain ⟨A, hA, hva⟩ := evElems_sound (P := P) hxs hr hx
    refine ⟨_, w, μ, ?_, .refl hr hf, .string _⟩
    have pre : ∀ x2, x' = x2 → (convert src dst x2).run P w = (Conv.bytesToString x2).run P w → (Conv.bytesToString x2).run P w = .ok (.string ⟨l.toArray⟩) w → (convert src dst x').run P w = .ok (.string ⟨l.toArray⟩) w := by
      rintro x2 rfl h1 h2; rw [h1, h2]
    have hcv : ∀ a n c, (convert src dst (.slice a n c)).run P w = (Conv.bytesToString (.slice a n c)).run P w := by
      intro a n c
      refine (Sem.run_bind P w (underlying src) _).trans ?_
      rw [run_underlying hs, Result.andThen_ok]
      refine (Sem.run_bind P w (underlying dst) _).trans ?_
      rw [run_underlying hd, Result.andThen_ok]
      refine (Sem.run_bind P w (underlying e) _).trans ?_
      rw [run_underlying hu, Result.andThen_ok]
    have hsome : ∀ (a2 : Addr) (c2 : Nat), (∀ w' : World, w'.heap = w.heap → (Builtin.firstCells 1 n (.slice (some a2) n c2)).run P w' = .ok A w') → (Conv.bytesToString (.slice (some a2) n c2)).run P w = .ok (.string ⟨l.toArray⟩) w := by
      intro a2 c2 hfc
      have hlc : (loadCells a2 n).run P w = .ok A w := by
        have := hfc w rfl
        simpa [Builtin.firstCells] using this
      unfold Conv.bytesToString
      simp [hlc]
      rw [← Array.forIn_toList, run_bytes (P := P) (μ := μ) ?_ xs A.toList l ByteArray.empty hl hva]
      · simp
      · intro _ _; rfl
    cases hx with
    | nilSlice =>
      refine pre _ rfl (hcv _ _ _) ?_
      simp only [evElems, Option.some.injEq] at hxs
      subst hxs
      simp only [bytesOf, Option.some.injEq] at hl
      subst hl
      rfl
    | slice hb hc => exact pre _ rfl (hcv _ _ _) (hsome _ _ hA)
    | empty0 a' => exact pre _ rfl (hcv _ _ _) (hsome _ _ hA)
    | emptyAny a' C => exact pre _ rfl (hcv _ _ _) (hsome _ _ hA)
  · rename_i e e2 b i n c hs hd
    split at he
    case isFalse => simp at he
    case isTrue hsd =>
    subst hsd
    rw [hs] at hd
    cases hd
    split at he
    case h_2 => simp at he
    case h_1 hu ho =>
    simp only [Option.some.injEq, Prod.mk.injEq] at he
    obtain ⟨rfl, rfl⟩ := he
    cases hx with
    | slice hb hc =>
      have hx2 := VR.slice (n := n) hb hc
      obtain ⟨w', hw, st⟩ := mark_step hr hf hb ho
      exact ⟨_, w', μ, run_convert_same hs hu hw, st, hx2⟩
  · simp at he
end Go.Proofs.Ytfehhihllenjiaa
/- One operation. -/
set_option linter.all false
namespace Go.Proofs.Ytfehhihllenjiaa

def ev (e : Env) : Operand → Value
  | .tmp t => e t
  | .const v => v
  | .func f => .func (.func f) #[] #[]
  | .global _ => undef
theorem ev_sound {μ : Mu} {e : Env} {a : Act} (he : EnvR μ e a.tmps) {x : Operand} (hg : goodOpd x = true) : VR μ (ev e x) (a.eval x) := by
  cases x with
  | tmp t => exact he t
  | const v => exact VR.closed 8 v hg
  | func f => exact .func _ (fun l => by simp) .nil .nil
  | global g => simp [goodOpd] at hg

def evMin (isMax : Bool) : List Value → Option Value
  | [.int k x, .int _ y] => some (.int k (if isMax then (if y > x then y else x) else (if y < x then y else x)))
  | [.int k x, .int _ y, .int _ z] => some (.int k (if isMax then (if z > (if y > x then y else x) then z else (if y > x then y else x)) else (if z < (if y < x then y else x) then z else (if y < x then y else x))))
  | _ => none

def evLenB (P : Program) (t : TypeId) (x : Value) : Option Value :=
  match P.underlying t, x with
  | some .string, .string s => some (.int .i64 s.size)
  | some (.array n _), _ => some (.int .i64 n)
  | some (.pointer arr), _ => match P.underlying arr with
    | some (.array n _) => some (.int .i64 n)
    | _ => none
  | some (.slice _), .slice _ n _ => some (.int .i64 n)
  | _, _ => none
def evCapB (P : Program) (t : TypeId) (x : Value) (h : Heap) : Option Value :=
  match P.underlying t, x with
  | some (.slice _), .slice none 0 0 => some (.int .i64 0)
  | some (.slice _), .slice (some ⟨0, 0, some 0⟩) 0 0 => some (.int .i64 0)
  | some (.slice _), .slice (some ⟨b, i, none⟩) n c => match h.obj b with
    | some (.row k es cs) => if exactS k i c es cs = true then some (.int .i64 c) else none
    | _ => none
  | _, _ => none

def evBuiltin (P : Program) (b : Builtin) (ts : List TypeId) (args : List Value) (h : Heap) : Option (Value × Heap) :=
  match b, ts, args with
  | .len, [t], [x] => (evLenB P t x).map fun v => (v, h)
  | .cap, [t], [x] => (evCapB P t x h).map fun v => (v, h)
  | .append, [st, xt], [s, x] => evAppend P st xt s x h
  | .copy, [dt, _], [d, s] => evCopy P dt d s h
  | .min, _, xs => (evMin false xs).map fun v => (v, h)
  | .max, _, xs => (evMin true xs).map fun v => (v, h)
  | _, _, _ => none

def evNil (x : Value) : Option Value :=
  match x with
  | .pointer (some a) => some (.pointer (some a))
  | .func (.func f) a b => some (.func (.func f) a b)
  | .func (.yield f) a b => some (.func (.yield f) a b)
  | .iface t v => some (.iface t v)
  | _ => none

def evToArr (P : Program) (t : TypeId) (x : Value) : Option Value :=
  match P.underlying t, x with
  | some (.array n _), .slice (some ⟨b, i, none⟩) len _ => if n ≤ len then some (.pointer (some ⟨b, i, none⟩)) else none
  | _, _ => none

def evPlain (P : Program) (e : Env) (h : Heap) (o : Oper) : Option (Value × Heap) :=
  match o.op with
  | .move x => some (ev e x, h)
  | .assign x => some (ev e x, h)
  | .pick c a b => match ev e c with
    | .bool t => some (if t then ev e a else ev e b, h)
    | _ => none
  | .alloc t => evAlloc P t h
  | .box _ x => evBox (ev e x) h
  | .build t parts => (evBuild P t (parts.toList.map fun p => (p.1, ev e p.2))).map fun v => (v, h)
  | .buildSlice t n parts => evBuildSlice P t n (parts.toList.map fun p => (p.1, ev e p.2)) h
  | .load t a => (evLoad P t (ev e a) h).map fun v => (v, h)
  | .store t a x => (evStore P t (ev e a) (ev e x) h).map fun h' => (undef, h')
  | .nilCheck x => (evNil (ev e x)).map fun v => (v, h)
  | .binOp op t x y _ => (evBin P op t (Region.isConst x || Region.isConst y) (ev e x) (ev e y)).map fun v => (v, h)
  | .unOp op _ x => (evUn op (ev e x)).map fun v => (v, h)
  | .convert s d x => evConvert P s d (ev e x) h
  | .sliceToArrayPointer t x => (evToArr P t (ev e x)).map fun v => (v, h)
  | .makeInterface t x => match P.underlying t with
    | some (.interface _) => none
    | some _ => some (.iface t (ev e x), h)
    | none => none
  | .makeFunc (.func f) first cap => some (.func (.func f) (first.toList.map (ev e)).toArray (cap.toList.map (ev e)).toArray, h)
  | .makeSlice t l c => evMakeSlice P t (ev e l) (ev e c) h
  | .slice t x lo hi mx => (evSlice P t (ev e x) (lo.map (ev e)) (hi.map (ev e)) (mx.map (ev e)) h).map fun v => (v, h)
  | .fieldAddr t x f => (evFieldAddr P t (ev e x) f).map fun v => (v, h)
  | .field t x f => (evField P t (ev e x) f).map fun v => (v, h)
  | .indexAddr t x i => (evIndexAddr P t (ev e x) (ev e i)).map fun v => (v, h)
  | .index t x i => (evIndex P t (ev e x) (ev e i)).map fun v => (v, h)
  | .extract x k => (evExtract (ev e x) k).map fun v => (v, h)
  | .call c => match c.callee with
    | .builtin b => evBuiltin P b c.argTypes.toList (c.args.toList.map (ev e)) h
    | _ => none
  | _ => none

/-- What an operation's run gives, where it calls nothing. -/
def NSound (P : Program) (s : Sem Next) (μ : Mu) (h : Heap) (w : World) (v : Value) (h' : Heap) : Prop :=
  ∃ nx v' w' μ', s.run P w = .ok nx w' ∧ (nx = .value v' ∨ nx = .skip ∧ v' = undef) ∧ Step μ μ' h h' w w' ∧ VR μ' v v'

theorem NSound.of {P : Program} {s : Sem Value} {μ : Mu} {h h' : Heap} {w : World} {v : Value} (hs : Sound P s μ h w v h') : NSound P (do pure (.value (← s))) μ h w v h' := by
  obtain ⟨v', w', μ', h1, h2, h3⟩ := hs
  exact ⟨.value v', v', w', μ', by simp [h1], .inl rfl, h2, h3⟩
theorem NSound.pure {P : Program} {s : Sem Value} {μ : Mu} {h : Heap} {w : World} {v : Value} (hr : Rel μ h w) (hf : Fresh μ h) (hs : ∃ v', s.run P w = .ok v' w ∧ VR μ v v') : NSound P (do pure (.value (← s))) μ h w v h := by
  obtain ⟨v', h1, h2⟩ := hs
  exact ⟨.value v', v', w, μ, by simp [h1], .inl rfl, .refl hr hf, h2⟩

theorem VRL.inv1 {μ : Mu} {x : Value} {l : List Value} (h : VRL μ [x] l) : ∃ x', l = [x'] ∧ VR μ x x' := by
  cases h with
  | cons h1 t => cases t; exact ⟨_, rfl, h1⟩
theorem VRL.inv2 {μ : Mu} {x y : Value} {l : List Value} (h : VRL μ [x, y] l) : ∃ x' y', l = [x', y'] ∧ VR μ x x' ∧ VR μ y y' := by
  cases h with
  | cons h1 t => obtain ⟨y', rfl, h2⟩ := VRL.inv1 t; exact ⟨_, _, rfl, h1, h2⟩
theorem VRL.inv3 {μ : Mu} {x y z : Value} {l : List Value} (h : VRL μ [x, y, z] l) : ∃ x' y' z', l = [x', y', z'] ∧ VR μ x x' ∧ VR μ y y' ∧ VR μ z z' := by
  cases h with
  | cons h1 t => obtain ⟨y', z', rfl, h2, h3⟩ := VRL.inv2 t; exact ⟨_, _, _, rfl, h1, h2, h3⟩

theorem evMin_sound {P : Program} {m : Bool} {xs xs' : List Value} {r : Value} {μ : Mu} {w : World} (h : evMin m xs = some r) (hx : VRL μ xs xs') (ts : Array TypeId) (ty : TypeId) :
    (if m then Builtin.max_ ts ty xs'.toArray else Builtin.min_ ts ty xs'.toArray).run P w = .ok r w ∧ VR μ r r := by
  unfold evMin at h
  split at h
  · rename_i k x k2 y
    obtain ⟨_, _, rfl, h1, h2⟩ := hx.inv2
    cases h1; cases h2
    simp only [Option.some.injEq] at h
    subst h
    cases m
    · refine ⟨?_, .int _ _⟩
      simp [Builtin.min_, Builtin.min2]
    · refine ⟨?_, .int _ _⟩
      simp [Builtin.max_, Builtin.max2]
  · rename_i k x k2 y k3 z
    obtain ⟨_, _, _, rfl, h1, h2, h3⟩ := hx.inv3
    cases h1; cases h2; cases h3
    simp only [Option.some.injEq] at h
    subst h
    cases m
    · refine ⟨?_, .int _ _⟩
      simp [Builtin.min_, Builtin.min2]
    · refine ⟨?_, .int _ _⟩
      simp [Builtin.max_, Builtin.max2]
  · simp at h

theorem VRL.of_map {μ : Mu} {α : Type} {f g : α → Value} : ∀ (l : List α), (∀ x ∈ l, VR μ (f x) (g x)) → VRL μ (l.map f) (l.map g)
  | [], _ => .nil
  | x :: l, h => .cons (h x (by simp)) (VRL.of_map l fun y hy => h y (by simp [hy]))

theorem evBuiltin_sound {P : Program} (hP : ProgOk P) {b : Builtin} {ts : Array TypeId} {args args' : List Value} {v : Value} {h h' : Heap} {μ : Mu} {w : World} (he : evBuiltin P b ts.toList args h = some (v, h'))
    (hr : Rel μ h w) (hf : Fresh μ h) (ha : VRL μ args args') (ty : TypeId) (consts : Array Bool) : NSound P (builtin b ts ty consts args'.toArray) μ h w v h' := by
  unfold evBuiltin at he
  split at he
  · rename_i t x hts
    obtain rfl : ts = #[t] := Array.toList_inj.1 hts
    obtain ⟨_, rfl, h1⟩ := ha.inv1
    obtain ⟨r, hr', he⟩ := Option.map_eq_some_iff.1 he
    simp only [Prod.mk.injEq] at he
    obtain ⟨rfl, rfl⟩ := he
    refine NSound.pure hr hf ?_
    unfold evLenB at hr'
    split at hr'
    · rename_i s hd; cases h1; simp only [Option.some.injEq] at hr'; subst hr'; exact ⟨_, by simp [Builtin.len_, run_underlying hd, goInt], .int _ _⟩
    · rename_i n el hd; simp only [Option.some.injEq] at hr'; subst hr'; exact ⟨_, by simp [Builtin.len_, run_underlying hd, goInt], .int _ _⟩
    · rename_i arr hd
      split at hr'
      · rename_i n el hd2; simp only [Option.some.injEq] at hr'; subst hr'; exact ⟨_, by simp [Builtin.len_, run_underlying hd, run_underlying hd2, goInt], .int _ _⟩
      · simp at hr'
    · rename_i el a n c hd; simp only [Option.some.injEq] at hr'; subst hr'
      cases h1 <;> exact ⟨_, by simp [Builtin.len_, run_underlying hd, goInt], .int _ _⟩
    · simp at hr'
  · rename_i t x hts
    obtain rfl : ts = #[t] := Array.toList_inj.1 hts
    obtain ⟨_, rfl, h1⟩ := ha.inv1
    obtain ⟨r, hr', he⟩ := Option.map_eq_some_iff.1 he
    simp only [Prod.mk.injEq] at he
    obtain ⟨rfl, rfl⟩ := he
    refine NSound.pure hr hf ?_
    unfold evCapB at hr'
    split at hr'
    · rename_i el hd; cases h1; simp only [Option.some.injEq] at hr'; subst hr'; exact ⟨_, by simp [Builtin.cap_, run_underlying hd, goInt], .int _ _⟩
    · rename_i el hd; cases h1; simp only [Option.some.injEq] at hr'; subst hr'; exact ⟨_, by simp [Builtin.cap_, run_underlying hd, goInt], .int _ _⟩
    · rename_i el b i n c hd
      cases h1 with
      | slice hb hc =>
      rename_i C m
      split at hr'
      case h_2 => simp at hr'
      case h_1 k es cs hob =>
      split at hr'
      case isFalse => simp at hr'
      case isTrue hex =>
      simp only [Option.some.injEq] at hr'; subst hr'
      obtain ⟨hmk, hme, hlen, _⟩ := hr.obj b m _ hb hob
      have hCc : C = c := by
        rcases hc with rfl | ⟨hg, _, hend, _⟩
        · rfl
        · exfalso
          rw [hmk] at hg
          rw [hme, hlen] at hend
          simp [exactS, hg, hend] at hex
      subst hCc
      exact ⟨_, by simp [Builtin.cap_, run_underlying hd, goInt], .int _ _⟩
    · simp at hr'
  · rename_i st xt s x hts
    obtain rfl : ts = #[st, xt] := Array.toList_inj.1 hts
    obtain ⟨_, _, rfl, h1, h2⟩ := ha.inv2
    exact NSound.of (evAppend_sound hP he hr hf h1 h2)
  · rename_i dt st d s hts
    obtain rfl : ts = #[dt, st] := Array.toList_inj.1 hts
    obtain ⟨_, _, rfl, h1, h2⟩ := ha.inv2
    exact NSound.of (evCopy_sound he hr hf h1 h2)
  · obtain ⟨r, hr', he⟩ := Option.map_eq_some_iff.1 he
    simp only [Prod.mk.injEq] at he
    obtain ⟨rfl, rfl⟩ := he
    have := evMin_sound (P := P) (w := w) hr' ha ts ty
    exact NSound.pure hr hf ⟨r, by simpa using this.1, this.2⟩
  · obtain ⟨r, hr', he⟩ := Option.map_eq_some_iff.1 he
    simp only [Prod.mk.injEq] at he
    obtain ⟨rfl, rfl⟩ := he
    have := evMin_sound (P := P) (w := w) hr' ha ts ty
    exact NSound.pure hr hf ⟨r, by simpa using this.1, this.2⟩
  · simp at he

theorem evNil_run {P : Program} {e : Env} {a : Act} {h : Heap} {μ : Mu} {w : World} {x : Operand} {v : Value} {o : Oper} (ho : o.op = .nilCheck x) (he : evNil (ev e x) = some v) (hr : Rel μ h w) (hf : Fresh μ h) (hx : VR μ (ev e x) (a.eval x)) :
    NSound P (execOp a.eval o) μ h w v h := by
  unfold execOp
  rw [ho]
  dsimp only
  generalize ev e x = y at he hx
  generalize a.eval x = y' at hx ⊢
  unfold evNil at he
  split at he
  · simp only [Option.some.injEq] at he; subst he
    cases hx with
    | ptr hb => exact ⟨_, _, w, μ, rfl, .inl rfl, .refl hr hf, .ptr hb⟩
  · simp only [Option.some.injEq] at he; subst he
    cases hx with
    | func fn hfn h1 h2 => exact ⟨_, _, w, μ, rfl, .inl rfl, .refl hr hf, .func _ hfn h1 h2⟩
  · simp only [Option.some.injEq] at he; subst he
    cases hx with
    | func fn hfn h1 h2 => exact absurd rfl (hfn _)
    | yield hl => exact ⟨_, _, w, μ, rfl, .inl rfl, .refl hr hf, .yield hl⟩
  · simp only [Option.some.injEq] at he; subst he
    cases hx with
    | iface t hv => exact ⟨_, _, w, μ, rfl, .inl rfl, .refl hr hf, .iface _ hv⟩
  · simp at he

theorem evPlain_sound {P : Program} (hP : ProgOk P) {e : Env} {a : Act} {h h' : Heap} {o : Oper} {v : Value} {μ : Mu} {w : World} (he : evPlain P e h o = some (v, h')) (hev : ∀ x ∈ o.op.operands.toList, VR μ (ev e x) (a.eval x)) (hr : Rel μ h w) (hf : Fresh μ h) : NSound P (execOp a.eval o) μ h w v h' := by
  unfold evPlain at he
  split at he
  all_goals rename_i hop
  all_goals simp only [hop, Op.operands] at hev
  · simp only [Option.some.injEq, Prod.mk.injEq] at he; obtain ⟨rfl, rfl⟩ := he
    exact ⟨.value (a.eval _), _, w, μ, by unfold execOp; rw [hop]; rfl, .inl rfl, .refl hr hf, hev _ (by simp)⟩
  · simp only [Option.some.injEq, Prod.mk.injEq] at he; obtain ⟨rfl, rfl⟩ := he
    exact ⟨.value (a.eval _), _, w, μ, by unfold execOp; rw [hop]; rfl, .inl rfl, .refl hr hf, hev _ (by simp)⟩
  · -- pick
    rename_i c x y
    have hc := hev c (by simp)
    split at he
    case h_2 => simp at he
    case h_1 t hb =>
    rw [hb] at hc
    simp only [Option.some.injEq, Prod.mk.injEq] at he; obtain ⟨rfl, rfl⟩ := he
    refine ⟨.value (if t then a.eval x else a.eval y), _, w, μ, ?_, .inl rfl, .refl hr hf, ?_⟩
    · unfold execOp; rw [hop]
      dsimp only
      generalize a.eval c = c' at hc ⊢
      cases hc
      simp [asBool]
    · cases t
      · exact hev y (by simp)
      · exact hev x (by simp)
  · -- alloc
    have := NSound.of (evAlloc_sound hP he hr hf)
    unfold execOp; rw [hop]; exact this
  · rename_i t x
    have := NSound.of (evBox_sound (P := P) (t := t) he hr hf (hev x (by simp)))
    unfold execOp; rw [hop]; exact this
  · rename_i t parts
    obtain ⟨r, hr', he⟩ := Option.map_eq_some_iff.1 he
    simp only [Prod.mk.injEq] at he; obtain ⟨rfl, rfl⟩ := he
    have hb := evBuild_sound hP (g := a.eval) hr' (fun p hp => hev p.2 (by simp; exact ⟨p.1, by simpa using hp⟩)) w
    have := NSound.pure hr hf hb
    unfold execOp; rw [hop]
    have e1 : (parts.toList.map fun p => (p.1, a.eval p.2)).toArray = parts.map fun p => (p.1, a.eval p.2) := by
      apply Array.toList_inj.1; simp
    rw [e1] at this
    exact this
  · rename_i t n parts
    have := NSound.of (evBuildSlice_sound hP (g := a.eval) he hr hf (fun p hp => hev p.2 (by simp; exact ⟨p.1, by simpa using hp⟩)))
    unfold execOp; rw [hop]
    have e1 : (parts.toList.map fun p => (p.1, a.eval p.2)).toArray = parts.map fun p => (p.1, a.eval p.2) := by
      apply Array.toList_inj.1; simp
    rw [e1] at this
    exact this
  · rename_i t x
    obtain ⟨r, hr', he⟩ := Option.map_eq_some_iff.1 he
    simp only [Prod.mk.injEq] at he; obtain ⟨rfl, rfl⟩ := he
    have := NSound.pure hr hf (evLoad_sound (P := P) hr' hr hf (hev x (by simp)))
    unfold execOp; rw [hop]; exact this
  · rename_i t x y
    obtain ⟨r, hr', he⟩ := Option.map_eq_some_iff.1 he
    simp only [Prod.mk.injEq] at he; obtain ⟨rfl, rfl⟩ := he
    obtain ⟨w', hw', hs⟩ := evStore_sound (P := P) hr' hr hf (hev x (by simp)) (hev y (by simp))
    exact ⟨.skip, undef, w', μ, by unfold execOp; rw [hop]; simp [hw'], .inr ⟨rfl, rfl⟩, hs, .tuple .nil⟩
  · rename_i x
    obtain ⟨r, hr', he⟩ := Option.map_eq_some_iff.1 he
    simp only [Prod.mk.injEq] at he; obtain ⟨rfl, rfl⟩ := he
    exact evNil_run hop hr' hr hf (hev x (by simp))
  · rename_i op t x y _
    obtain ⟨r, hr', he⟩ := Option.map_eq_some_iff.1 he
    simp only [Prod.mk.injEq] at he; obtain ⟨rfl, rfl⟩ := he
    have hb := evBin_sound (P := P) (w := w) hr' (hev x (by simp)) (hev y (by simp))
    have := NSound.pure hr hf ⟨_, hb.1, hb.2⟩
    unfold execOp; rw [hop]; exact this
  · rename_i op _ x
    obtain ⟨r, hr', he⟩ := Option.map_eq_some_iff.1 he
    simp only [Prod.mk.injEq] at he; obtain ⟨rfl, rfl⟩ := he
    have hb := evUn_sound (P := P) (w := w) hr' (hev x (by simp))
    have := NSound.pure hr hf ⟨_, hb.1, hb.2⟩
    unfold execOp; rw [hop]; exact this
  · rename_i s d x
    have := NSound.of (evConvert_sound (P := P) he hr hf (hev x (by simp)))
    unfold execOp; rw [hop]; exact this
  · rename_i t x
    obtain ⟨r, hr', he⟩ := Option.map_eq_some_iff.1 he
    simp only [Prod.mk.injEq] at he; obtain ⟨rfl, rfl⟩ := he
    have hx := hev x (by simp)
    have : ∃ v', (Instr.arrayAt t (a.eval x)).run P w = .ok v' w ∧ VR μ r v' := by
      unfold evToArr at hr'
      split at hr'
      case h_2 => simp at hr'
      case h_1 n el b i len c hd heq =>
      rw [heq] at hx
      split at hr'
      case isFalse => simp at hr'
      case isTrue hle =>
      simp only [Option.some.injEq] at hr'; subst hr'
      generalize a.eval x = x' at hx ⊢
      cases hx with
      | slice hb hc => exact ⟨_, by simp [Instr.arrayAt, run_underlying hd, show ¬ len < n by omega], .ptr hb⟩
    have := NSound.pure hr hf this
    unfold execOp; rw [hop]; exact this
  · rename_i t x
    split at he
    · simp at he
    · rename_i d hd hdi
      simp only [Option.some.injEq, Prod.mk.injEq] at he; obtain ⟨rfl, rfl⟩ := he
      have : ∃ v', (Instr.makeInterface t (a.eval x)).run P w = .ok v' w ∧ VR μ (.iface t (ev e x)) v' := by
        refine ⟨.iface t (a.eval x), ?_, .iface t (hev x (by simp))⟩
        refine (Sem.run_bind P w (underlying t) _).trans ?_
        rw [run_underlying hdi, Result.andThen_ok]
        cases d <;> first | rfl | exact (hd _ rfl).elim
      have := NSound.pure hr hf this
      unfold execOp; rw [hop]; exact this
    · simp at he
  · rename_i f first cap
    simp only [Option.some.injEq, Prod.mk.injEq] at he; obtain ⟨rfl, rfl⟩ := he
    refine ⟨.value (.func (.func f) (first.map a.eval) (cap.map a.eval)), _, w, μ, by unfold execOp; rw [hop]; rfl, .inl rfl, .refl hr hf, .func _ (fun l => by simp) ?_ ?_⟩
    · simp only [List.toList_toArray, Array.toList_map]; exact VRL.of_map _ fun x hx => hev x (by simp [hx] <;> simp at hx <;> simp [hx])
    · simp only [List.toList_toArray, Array.toList_map]; exact VRL.of_map _ fun x hx => hev x (by simp at hx; simp [hx])
  · rename_i t l c
    have := NSound.of (evMakeSlice_sound hP he hr hf (hev l (by simp)) (hev c (by simp)))
    unfold execOp; rw [hop]; exact this
  · rename_i t x lo hi mx
    obtain ⟨r, hr', he⟩ := Option.map_eq_some_iff.1 he
    simp only [Prod.mk.injEq] at he; obtain ⟨rfl, rfl⟩ := he
    have := NSound.pure hr hf (evSlice_sound (P := P) hr' hr (hev x (by simp)) (ORel.of_map (g := a.eval) lo fun y hy => hev y (by simp [hy])) (ORel.of_map (g := a.eval) hi fun y hy => hev y (by simp [hy])) (ORel.of_map (g := a.eval) mx fun y hy => hev y (by simp [hy])))
    unfold execOp; rw [hop]; exact this
  · rename_i t x f
    obtain ⟨r, hr', he⟩ := Option.map_eq_some_iff.1 he
    simp only [Prod.mk.injEq] at he; obtain ⟨rfl, rfl⟩ := he
    have := NSound.pure hr hf (evFieldAddr_sound (P := P) hr' (hev x (by simp)) w)
    unfold execOp; rw [hop]; exact this
  · rename_i t x f
    obtain ⟨r, hr', he⟩ := Option.map_eq_some_iff.1 he
    simp only [Prod.mk.injEq] at he; obtain ⟨rfl, rfl⟩ := he
    have := NSound.pure hr hf (evField_sound (P := P) hr' (hev x (by simp)) w)
    unfold execOp; rw [hop]; exact this
  · rename_i t x i
    obtain ⟨r, hr', he⟩ := Option.map_eq_some_iff.1 he
    simp only [Prod.mk.injEq] at he; obtain ⟨rfl, rfl⟩ := he
    have := NSound.pure hr hf (evIndexAddr_sound (P := P) hr' (hev x (by simp)) (hev i (by simp)) w)
    unfold execOp; rw [hop]; exact this
  · rename_i t x i
    obtain ⟨r, hr', he⟩ := Option.map_eq_some_iff.1 he
    simp only [Prod.mk.injEq] at he; obtain ⟨rfl, rfl⟩ := he
    have := NSound.pure hr hf (evIndex_sound (P := P) hr' (hev x (by simp)) (hev i (by simp)) w)
    unfold execOp; rw [hop]; exact this
  · rename_i x k
    obtain ⟨r, hr', he⟩ := Option.map_eq_some_iff.1 he
    simp only [Prod.mk.injEq] at he; obtain ⟨rfl, rfl⟩ := he
    have := NSound.pure hr hf (evExtract_sound (P := P) hr' (hev x (by simp)) w)
    unfold execOp; rw [hop]; exact this
  · rename_i c
    split at he
    · rename_i b hc
      have ha : VRL μ (c.args.toList.map (ev e)) (c.args.toList.map a.eval) := VRL.of_map _ fun x hx => hev x (by simp [Call.operands]; right; simpa using hx)
      obtain ⟨nx, v', w', μ', h1, h2⟩ := evBuiltin_sound hP he hr hf ha o.type (c.args.map fun | .const _ => true | _ => false)
      refine ⟨nx, v', w', μ', ?_, h2⟩
      unfold execOp; rw [hop]
      simp only [resolve, hc, Sem.run_bind, Sem.run_pure, Result.andThen_ok, invoke]
      have e1 : (c.args.toList.map a.eval).toArray = c.args.map a.eval := by apply Array.toList_inj.1; simp
      rw [e1] at h1
      exact h1
    · simp at he
  · simp at he
end Go.Proofs.Ytfehhihllenjiaa
/- The evaluator of code: definitions. -/
set_option linter.all false
namespace Go.Proofs.Ytfehhihllenjiaa

inductive Rs where
  | ok (v : Value)
  | pan (v : Value)
inductive X where
  | normal
  | exit (id : Nat)
  | ret
  | pan (v : Value)
abbrev Phi := List Value → Heap → Option (Rs × Heap)
abbrev Ev := Env → Heap → Option (X × Env × Heap)

def evOp (call : Value → Phi) (P : Program) (e : Env) (h : Heap) (o : Oper) : Option (Rs × Heap) :=
  match o.op with
  | .call c => match c.callee with
    | .value f => call (ev e f) (c.args.toList.map (ev e)) h
    | _ => (evPlain P e h o).map fun r => (.ok r.1, r.2)
  | .panic x => match ev e x with
    | .iface t v => some (.pan (.iface t v), h)
    | _ => none
  | _ => (evPlain P e h o).map fun r => (.ok r.1, r.2)

def yieldedA (ops : Array Oper) (e : Env) (j : Nat) : Option Bool :=
  match (ops[j]?).bind (·.dst) with
  | some d => match e d with
    | .bool b => some b
    | _ => none
  | none => none
def wantedA (ops : Array Oper) (e : Env) (o : Oper) : Bool :=
  match o.guard with
  | none => true
  | some (j, want) => yieldedA ops e j == some want
def putE (e : Env) (dst : Option Nat) (v : Value) : Env :=
  match dst with
  | some d => upd e d v
  | none => e
def evOps (call : Value → Phi) (P : Program) (all : Array Oper) : List Oper → Ev
  | [], e, h => some (.normal, e, h)
  | o :: rest, e, h =>
    if wantedA all e o = true then
      match evOp call P e h o with
      | some (.ok v, h') => evOps call P all rest (putE e o.dst v) h'
      | some (.pan v, h') => some (.pan v, e, h')
      | none => none
    else evOps call P all rest (putE e o.dst undef) h

def iter (f : Ev) : Nat → Ev
  | 0, _, _ => none
  | n + 1, e, h => match f e h with
    | some (.normal, e', h') => iter f n e' h'
    | r => r

def isFunc : Value → Bool
  | .func (.func _) _ _ => true
  | _ => false
def aroundOk (around : Option Nat) (h : Heap) : Bool :=
  match around with
  | none => true
  | some la => match h.obj la with
    | some (.loop _) => true
    | _ => false
def evRange (call : Value → Phi) (around : Option Nat) (f : Operand) (params : Array Tmp) (assign body : Code) : Ev := fun e h =>
  if isFunc (ev e f) = true ∧ aroundOk around h = true then
  match call (ev e f) [.func (.yield h.nx) #[] #[]] (h.push (.loop ⟨.ready, none, e, params, assign, body⟩)) with
  | some (.ok _, h2) => match h2.obj h.nx with
    | some (.loop L) =>
      if L.state = .busy then none else
      match L.pending with
      | none => some (.normal, e, h2.put h.nx (some (.loop { L with state := .exhausted })))
      | some (.exit id) => some (.exit id, e, h2.put h.nx (some (.loop { L with state := .exhausted })))
      | some .ret => some (.ret, e, h2.put h.nx (some (.loop { L with state := .exhausted })))
      | _ => none
    | _ => none
  | some (.pan v, h2) => some (.pan v, e, h2)
  | none => none
  else none

structure Cfg where
  P : Program
  spec : FuncId → Option Phi
  calm : FuncId → Bool
  inl : FuncId → Bool
  iso : FuncId → Bool
  R : Nat
  ext : FuncId → Option (List Value → Option Value) := fun _ => none

/-! Regions that draw: which orders are held by the edges. 'calm': a function that changes nothing that was there. -/
inductive Cls where | pure | read | alloc | eff
  deriving DecidableEq
def clsOf (calm : FuncId → Bool) : Op → Cls
  | .load .. | .slice .. => .read
  | .alloc _ | .box .. | .buildSlice .. | .makeSlice .. => .alloc
  | .move _ | .assign _ | .pick .. | .build .. | .nilCheck _ | .binOp .. | .unOp .. | .sliceToArrayPointer .. | .makeInterface .. | .makeFunc .. | .fieldAddr .. | .field .. | .indexAddr .. | .index .. | .extract .. => .pure
  | .convert .. => .read
  | .call { callee := .builtin .len, .. } | .call { callee := .builtin .min, .. } | .call { callee := .builtin .max, .. } => .pure
  | .call { callee := .value (.func f), .. } => if calm f then .pure else .eff
  | _ => .eff
def clsOk : Cls → Cls → Bool   -- the first one stands ahead in the text
  | .eff, .eff | .eff, .read | .read, .eff | .alloc, .eff => false
  | _, _ => true
def pairOk (calm : FuncId → Bool) (ops : Array Oper) (bits : Array Nat) (i j : Nat) : Bool :=
  (match ops[i]?, ops[j]? with
   | some oi, some oj => (oi.dst.isNone || oi.dst != oj.dst) && ((bits.getD j 0).testBit i || (clsOk (clsOf calm oi.op) (clsOf calm oj.op) && oi.apart ops oj))
   | _, _ => false)
def drawOk (calm : FuncId → Bool) (ops : Array Oper) : Bool :=
  let bits := Region.before ops
  (ops.toList.zipIdx.all fun p => p.1.after.toList.all fun ed => !Region.binds .any ed || decide (ed.on < p.2)) &&
  (List.range ops.size).all fun j => (List.range j).all fun i => pairOk calm ops bits i j

/-! A read beside an effect that no edge orders: 'F': the operations that are flagged, 'S': the rows that the flagged reads read, and that the flagged effects leave alone. -/
def readEff : Cls → Cls → Bool
  | .read, .eff | .eff, .read => true
  | _, _ => false
def pairOkF (calm : FuncId → Bool) (ops : Array Oper) (bits : Array Nat) (F : List Nat) (i j : Nat) : Bool :=
  (match ops[i]?, ops[j]? with
   | some oi, some oj => (oi.dst.isNone || oi.dst != oj.dst) && ((bits.getD j 0).testBit i || (oi.apart ops oj && (clsOk (clsOf calm oi.op) (clsOf calm oj.op) || (readEff (clsOf calm oi.op) (clsOf calm oj.op) && F.contains i && F.contains j))))
   | _, _ => false)
def drawOkF (calm : FuncId → Bool) (ops : Array Oper) (F : List Nat) : Bool :=
  let bits := Region.before ops
  (ops.toList.zipIdx.all fun p => p.1.after.toList.all fun ed => !Region.binds .any ed || decide (ed.on < p.2)) &&
  (List.range ops.size).all fun j => (List.range j).all fun i => pairOkF calm ops bits F i j
def rowsOfV : Value → List Nat
  | .pointer (some ⟨b, _, none⟩) => [b]
  | .slice (some ⟨b, _, none⟩) _ _ => [b]
  | _ => []
def readRows (e : Env) (op : Op) : List Nat :=
  match op with
  | .load _ a => rowsOfV (ev e a)
  | .slice _ x _ _ _ => rowsOfV (ev e x)
  | .convert _ _ x => rowsOfV (ev e x)
  | _ => []
def chk (calm : FuncId → Bool) (S : Nat → Prop) (e : Env) (h h' : Heap) (op : Op) : Prop :=
  match clsOf calm op with
  | .read => h'.nx = h.nx ∧ ∀ r ∈ readRows e op, S r
  | .eff => ∀ r, S r → r < h.nx → h'.obj r = h.obj r
  | _ => True
def RunOk (call : Value → Phi) (P : Program) (calm : FuncId → Bool) (all : Array Oper) (F : List Nat) (S : Nat → Prop) : Nat → List Oper → Env → Heap → Prop
  | _, [], _, _ => True
  | i, o :: rest, e, h =>
    if wantedA all e o = true then
      match evOp call P e h o with
      | some (.ok v, h') => (F.contains i = true → chk calm S e h h' o.op) ∧ RunOk call P calm all F S (i + 1) rest (putE e o.dst v) h'
      | _ => False
    else RunOk call P calm all F S (i + 1) rest (putE e o.dst undef) h
def normalOnly (r : Option (X × Env × Heap)) : Option (X × Env × Heap) :=
  match r with
  | some (.normal, e, h) => some (.normal, e, h)
  | _ => none
open Classical in
noncomputable def drawE (calm : FuncId → Bool) (call : Value → Phi) (P : Program) (ops : Array Oper) : Ev := fun e h =>
  if drawOk calm ops = true then normalOnly (evOps call P ops ops.toList e h)
  else if ∃ (F : List Nat) (S : Nat → Prop), drawOkF calm ops F = true ∧ RunOk call P calm ops F S 0 ops.toList e h then normalOnly (evOps call P ops ops.toList e h) else none
noncomputable def evC (cfg : Cfg) (call : Value → Phi) (around : Option Nat) : Code → Ev
  | .skip => fun e h => some (.normal, e, h)
  | .region _ ops draw => fun e h => if draw = true then drawE cfg.calm call cfg.P ops e h else evOps call cfg.P ops ops.toList e h
  | .seq a b => fun e h => match evC cfg call around a e h with
    | some (.normal, e1, h1) => evC cfg call around b e1 h1
    | r => r
  | .cond c a b => fun e h => match ev e c with
    | .bool true => evC cfg call around a e h
    | .bool false => evC cfg call around b e h
    | _ => none
  | .block id b => fun e h => match evC cfg call around b e h with
    | some (.exit i, e1, h1) => if i = id then some (.normal, e1, h1) else some (.exit i, e1, h1)
    | r => r
  | .loop b => iter (evC cfg call around b) cfg.R
  | .rangeFunc f params assign body => evRange call around f params assign body
  | .exit id => fun e h => some (.exit id, e, h)
  | .ret => fun e h => some (.ret, e, h)
  | _ => fun _ _ => none

def envOf (args : List Value) : Env := fun t => args.getD t undef
def evResult (P : Program) (e : Env) (h : Heap) : ResultVar → Option Value
  | .tmp t => some (e t)
  | .cell a t => evLoad P t (e a) h
def evResultList (P : Program) (e : Env) (h : Heap) : List ResultVar → Option (List Value)
  | [] => some []
  | r :: rs => match evResult P e h r with
    | some v => (evResultList P e h rs).map fun l => v :: l
    | none => none
def packR : List Value → Value
  | [v] => v
  | l => .tuple l.toArray
def evBody (P : Program) (rec : Option Nat → Code → Ev) (fn : Func) (args : List Value) (h : Heap) : Option (Rs × Heap) :=
  match fn.body with
  | some c => match rec none c (envOf args) h with
    | some (.normal, e', h') => (evResultList P e' h' fn.results.toList).map fun l => (.ok (packR l), h')
    | some (.ret, e', h') => (evResultList P e' h' fn.results.toList).map fun l => (.ok (packR l), h')
    | some (.pan v, _, h') => some (.pan v, h')
    | _ => none
  | none => none
def bindE : Env → List Tmp → List Value → Env
  | e, t :: ts, a :: as => bindE (upd e t a) ts as
  | e, _, _ => e
def evRound (rec : Option Nat → Code → Ev) (l : Nat) (args : List Value) (h : Heap) : Option (Rs × Heap) :=
  match h.obj l with
  | some (.loop L) =>
    if L.state = .ready ∧ args.length = L.params.size then
      match rec (some l) L.assign (bindE L.tmps L.params.toList args) h with
      | some (.normal, e1, h1) => match h1.obj l with
        | some (.loop L1) =>
          if L1.state = .ready then
            match rec (some l) L.body e1 (h1.put l (some (.loop { L1 with state := .busy }))) with
            | some (x, _, h2) => match h2.obj l with
              | some (.loop L2) => match x with
                | .normal => some (.ok (.bool true), h2.put l (some (.loop { L2 with state := .ready, pending := none })))
                | .exit id => some (.ok (.bool false), h2.put l (some (.loop { L2 with state := .done, pending := some (.exit id) })))
                | .ret => some (.ok (.bool false), h2.put l (some (.loop { L2 with state := .done, pending := some .ret })))
                | .pan _ => none
              | _ => none
            | none => none
          else none
        | _ => none
      | _ => none
    else none
  | _ => none
/-- A function of plain data alone: it is run apart, and leaves the heap as it was. -/
def isoPhi (φ : Phi) : Phi := fun args h =>
  if args.all (closedV 8) = true then
    match φ args ⟨fun _ => none, 0⟩ with
    | some (.ok v, _) => if closedV 8 v = true then some (.ok v, h) else none
    | _ => none
  else none
def evCall (cfg : Cfg) (rec : Option Nat → Code → Ev) (f : Value) (args : List Value) (h : Heap) : Option (Rs × Heap) :=
  match f with
  | .func (.func k) first cap => match cfg.spec k with
    | some φ => φ (first.toList ++ args ++ cap.toList) h
    | none => if cfg.inl k = true then
        match cfg.P.funcs[k]? with
        | some fn => if cfg.iso k = true then isoPhi (evBody cfg.P rec fn) (first.toList ++ args ++ cap.toList) h else evBody cfg.P rec fn (first.toList ++ args ++ cap.toList) h
        | none => none
      else match cfg.ext k with
        | some g => (g (first.toList ++ args ++ cap.toList)).map fun v => (.ok v, h)
        | none => none
  | .func (.yield l) _ _ => evRound rec l args h
  | _ => none
noncomputable def evD (cfg : Cfg) : Nat → Option Nat → Code → Ev
  | 0 => fun _ _ _ _ => none
  | d + 1 => evC cfg (evCall cfg (evD cfg d))
noncomputable def evF (cfg : Cfg) (d : Nat) (f : FuncId) : Phi := fun args h =>
  match cfg.P.funcs[f]? with
  | some fn => evBody cfg.P (evD cfg d) fn args h
  | none => none

/-! What is shown. -/
def RsRel (μ : Mu) : Rs → Ending → Prop
  | .ok v, .returned v' => VR μ v v'
  | .pan v, .panicked ch => ∃ v', ch = [{ v := v', recovered := false }] ∧ VR μ v v'
  | _, _ => False
def SimF (P : Program) (f : FuncId) (φ : Phi) : Prop :=
  ∀ μ h w args args' r h', Rel μ h w → Fresh μ h → VRL μ args args' → φ args h = some (r, h') →
    Calls P f args'.toArray w fun e w' => ∃ μ', Step μ μ' h h' w w' ∧ RsRel μ' r e
def goodFn (fn : Func) : Bool := match fn.body with
  | some c => goodCode fn.ntmps c
  | none => false
structure CfgOk (cfg : Cfg) : Prop where
  prog : ProgOk cfg.P
  spec : ∀ f φ, cfg.spec f = some φ → SimF cfg.P f φ
  body : ∀ f φ, cfg.spec f = some φ → ∃ fn, cfg.P.funcs[f]? = some fn ∧ (fn.name == "runtime.NumGoroutine") = false ∧ fn.body.isNone = false
  inl : ∀ f, cfg.inl f = true → ∃ fn, cfg.P.funcs[f]? = some fn ∧ goodFn fn = true ∧ (fn.name == "runtime.NumGoroutine") = false ∧ fn.body.isNone = false
  calm : ∀ f, cfg.calm f = true → cfg.spec f = none ∧ cfg.iso f = true
  ext : ∀ f g, cfg.ext f = some g → ∀ args v, g args = some v → args.all (closedV 8) = true ∧ closedV 8 v = true ∧ ∀ w, (callFunc f args.toArray).run cfg.P w = .ok (.value v) w

/-- The calls of functions that are run apart hang on no heap. -/
def CalmOk (call : Value → Phi) (calm : FuncId → Bool) : Prop := ∀ k first cap args h g, calm k = true → call (.func (.func k) first cap) args g = (call (.func (.func k) first cap) args h).map fun r => (r.1, g)

def MarksOk (B0 : Nat) (μ : Mu) (h : Heap) (w : World) (ds : List Deferred) : Prop :=
  ∃ rs : List Nat, ds = rs.map (fun r => { target := .collected r, args := #[] }) ∧ rs.Nodup ∧
    ∀ r ∈ rs, B0 ≤ r ∧ w.heap[r]? = some (.deferred (some [])) ∧ ∀ b m, μ b = some m → (h.obj b).isSome = true → m.B ≠ r
theorem MarksOk.nil (B0 : Nat) (μ : Mu) (h : Heap) (w : World) : MarksOk B0 μ h w [] := ⟨[], rfl, List.nodup_nil, by simp⟩
theorem MarksOk.step {B0 : Nat} {μ μ' : Mu} {h h' : Heap} {w w' : World} {ds : List Deferred} (hm : MarksOk B0 μ h w ds) (hf : Fresh μ h) (s : Step μ μ' h h' w w') : MarksOk B0 μ' h' w' ds := by
  obtain ⟨rs, rfl, hn, hr⟩ := hm
  refine ⟨rs, rfl, hn, fun r hrm => ?_⟩
  obtain ⟨h0, hb, hno⟩ := hr r hrm
  have hlt : r < w.heap.size := (Array.getElem?_eq_some_iff.1 hb).1
  refine ⟨h0, by rw [s.pres.block r hlt fun b m h1 h2 _ => hno b m h1 h2]; exact hb, fun b m h1 h2 => ?_⟩
  rcases s.new b m h1 with h3 | ⟨_, h4 | ⟨b0, m0, h5, h6, _, h7⟩⟩
  · exact hno b m h3 (s.live b (hf.lt h3) h2)
  · omega
  · rw [← h7]; exact hno b0 m0 h5 h6

def Arr (P : Program) (M : Machine) (b : Frame) (k : List Item) (cs : List Frame) (μ : Mu) : X → Act → World → Prop
  | .normal, a, w => Steps P M (lone (b.atR a k) cs w)
  | .exit id, a, w => ∃ k1, exitTo id k1 = exitTo id k ∧ Steps P M (lone (b.atR a (.code (.exit id) :: k1)) cs w)
  | .ret, a, w => ∃ k1, Steps P M (lone (b.atR a (.code .ret :: k1)) cs w)
  | .pan v, a, w => ∃ k1 v', VR μ v v' ∧ Steps P M (lone { b.atR a k1 with mode := .panicking [{ v := v', recovered := false }] } cs w)
theorem Arr.of_steps {P : Program} {M M1 : Machine} {b : Frame} {k : List Item} {cs : List Frame} {μ : Mu} {x : X} {a : Act} {w : World} (h : Steps P M M1) (h' : Arr P M1 b k cs μ x a w) : Arr P M b k cs μ x a w := by
  cases x with
  | normal => exact h.trans h'
  | exit id => obtain ⟨k1, e, s⟩ := h'; exact ⟨k1, e, h.trans s⟩
  | ret => obtain ⟨k1, s⟩ := h'; exact ⟨k1, h.trans s⟩
  | pan v => obtain ⟨k1, v', r, s⟩ := h'; exact ⟨k1, v', r, h.trans s⟩

/-- What a run from 'M' in a frame comes to. -/
def Goes (P : Program) (B0 : Nat) (μ : Mu) (h : Heap) (w : World) (n : Nat) (M : Machine) (b : Frame) (k : List Item) (cs : List Frame) (x : X) (e' : Env) (h' : Heap) : Prop :=
  ∃ μ' w' a', Step μ μ' h h' w w' ∧ EnvR μ' e' a'.tmps ∧ a'.tmps.size = n ∧ MarksOk B0 μ' h' w' a'.defers ∧ Arr P M b k cs μ' x a' w'
def RoundR (μ : Mu) (around : Option Nat) (r : Option Nat) : Prop :=
  (around = none ∧ r = none) ∨ ∃ la m, around = some la ∧ μ la = some m ∧ r = some m.B
theorem RoundR.mono {μ μ' : Mu} (hx : Ext μ μ') {a r : Option Nat} (h : RoundR μ a r) : RoundR μ' a r := by
  rcases h with h | ⟨la, m, h1, h2, h3⟩
  · exact .inl h
  · exact .inr ⟨la, m, h1, hx _ _ h2, h3⟩
def CodeSound (P : Program) (around : Option Nat) (c : Code) (f : Ev) : Prop :=
  ∀ e h x e' h', f e h = some (x, e', h') → ∀ μ w a b k cs B0, RoundR μ around b.roundOf → Rel μ h w → Fresh μ h → EnvR μ e a.tmps → goodCode a.tmps.size c = true → MarksOk B0 μ h w a.defers → B0 ≤ w.heap.size →
    Goes P B0 μ h w a.tmps.size (lone (b.atR a (.code c :: k)) cs w) b k cs x e' h'
def CallRes (P : Program) (μ : Mu) (fr c : Frame) (cs : List Frame) (w w' : World) : Rs → Prop
  | .ok v => ∃ v', VR μ v v' ∧ Steps P (lone fr (c :: cs) w) (lone (c.finish v') cs w')
  | .pan v => ∃ v', VR μ v v' ∧ Steps P (lone fr (c :: cs) w) (lone (c.raise [{ v := v', recovered := false }]) cs w')
/-- A call (of a function, of yield): what becomes of the caller. -/
def CallSound (P : Program) (call : Value → Phi) : Prop :=
  ∀ f args h r h', call f args h = some (r, h') → ∀ μ w f' args', Rel μ h w → Fresh μ h → VR μ f f' → VRL μ args args' →
    (∃ nx fr, (do let d ← Deferred.ofValue f' args'.toArray; invoke d.target d.args : Sem Next).run P w = .ok nx w ∧
      ((∃ g as, nx = .enter g as ∧ fr = Frame.enter P g as .normal) ∨ isFunc f = false ∧ ∃ l g ts a b, nx = .round l g ts a b ∧ fr = Frame.round l g ts a b .normal) ∧
      ∀ (c : Frame) cs, ∃ μ' w', Step μ μ' h h' w w' ∧ CallRes P μ' fr c cs w w' r) ∨
    (∃ v v', r = .ok v ∧ h' = h ∧ VR μ v v' ∧ args.all (closedV 8) = true ∧ (do let d ← Deferred.ofValue f' args'.toArray; invoke d.target d.args : Sem Next).run P w = .ok (.value v') w)
end Go.Proofs.Ytfehhihllenjiaa
/- The evaluator of code is sound: operations, regions in the text's order. -/
set_option linter.all false
namespace Go.Proofs.Ytfehhihllenjiaa

section
variable {P : Program} {b : Frame} {a : Act} {k : List Item} {cs : List Frame} {w w' : World} {ops : Array Oper} {i : Nat} {rest : List Nat} {o : Oper}
theorem fin_atR (ho : ops[i]? = some o) (v : Value) : (b.atR a (.inRegion ops (i :: rest) :: k)).finish v = b.atR (a.put o.dst v) (.inRegion ops rest :: k) := by
  rw [Frame.finish_atR, ho]; rfl
theorem stepR_value {v : Value} (ho : ops[i]? = some o) (hw : Region.wanted o (yielded ops a.tmps) = true) (hd : ∀ c, o.op ≠ .defer c) (hr : (execOp a.eval o).run P w = .ok (.value v) w') :
    step P (lone (b.atR a (.inRegion ops (i :: rest) :: k)) cs w) = .next (lone (b.atR (a.put o.dst v) (.inRegion ops rest :: k)) cs w') :=
  step_lone_go (by rw [stepGR_op ho hw, Oper.semAt_eq _ _ _ hd, ← fin_atR ho]; simp [stepG.apply, hr])
theorem stepR_skipop (ho : ops[i]? = some o) (hw : Region.wanted o (yielded ops a.tmps) = true) (hd : ∀ c, o.op ≠ .defer c) (hr : (execOp a.eval o).run P w = .ok .skip w') :
    step P (lone (b.atR a (.inRegion ops (i :: rest) :: k)) cs w) = .next (lone (b.atR (a.put o.dst undef) (.inRegion ops rest :: k)) cs w') :=
  step_lone_go (by rw [stepGR_op ho hw, Oper.semAt_eq _ _ _ hd, ← fin_atR ho]; simp [stepG.apply, hr])
theorem stepR_panic {v : Value} (ho : ops[i]? = some o) (hw : Region.wanted o (yielded ops a.tmps) = true) (hd : ∀ c, o.op ≠ .defer c) (hr : (execOp a.eval o).run P w = .halt (.panic v) w') :
    step P (lone (b.atR a (.inRegion ops (i :: rest) :: k)) cs w) = .next (lone { b.atR a (.inRegion ops (i :: rest) :: k) with mode := .panicking [{ v := v, recovered := false }] } cs w') :=
  step_lone_go (by rw [stepGR_op ho hw, Oper.semAt_eq _ _ _ hd]; simp [stepG.apply, hr, Frame.raise_atR])
theorem stepR_enter {f : FuncId} {as : Array Value} (ho : ops[i]? = some o) (hw : Region.wanted o (yielded ops a.tmps) = true) (hd : ∀ c, o.op ≠ .defer c) (hr : (execOp a.eval o).run P w = .ok (.enter f as) w') :
    step P (lone (b.atR a (.inRegion ops (i :: rest) :: k)) cs w) = .next (lone (Frame.enter P f as .normal) (b.atR a (.inRegion ops (i :: rest) :: k) :: cs) w') :=
  step_lone_go (by rw [stepGR_op ho hw, Oper.semAt_eq _ _ _ hd]; simp [stepG.apply, hr, Frame.atR])
theorem stepR_round {l : Nat} {f : FuncId} {ts : Array Value} {x y : Code} (ho : ops[i]? = some o) (hw : Region.wanted o (yielded ops a.tmps) = true) (hd : ∀ c, o.op ≠ .defer c) (hr : (execOp a.eval o).run P w = .ok (.round l f ts x y) w') :
    step P (lone (b.atR a (.inRegion ops (i :: rest) :: k)) cs w) = .next (lone (Frame.round l f ts x y .normal) (b.atR a (.inRegion ops (i :: rest) :: k) :: cs) w') :=
  step_lone_go (by rw [stepGR_op ho hw, Oper.semAt_eq _ _ _ hd]; simp [stepG.apply, hr, Frame.atR])
end

theorem evPlain_nodefer {P : Program} {e : Env} {h : Heap} {o : Oper} {r : Value × Heap} (he : evPlain P e h o = some r) : ∀ c, o.op ≠ .defer c := by
  intro c hc
  unfold evPlain at he
  rw [hc] at he
  simp at he

/-- One operation of a region. -/
theorem op_sound {P : Program} (hP : ProgOk P) {call : Value → Phi} (hcall : CallSound P call) {e : Env} {h h' : Heap} {o : Oper} {r : Rs} {μ : Mu} {w : World} {a : Act} (he : evOp call P e h o = some (r, h'))
    (hev0 : ∀ x ∈ o.op.operands.toList, VR μ (ev e x) (a.eval x)) (hr : Rel μ h w) (hf : Fresh μ h) (b : Frame) (k : List Item) (cs : List Frame) {ops : Array Oper} {i : Nat} (rest : List Nat) (ho : ops[i]? = some o)
    (hw : Region.wanted o (yielded ops a.tmps) = true) :
    ∃ μ' w', Step μ μ' h h' w w' ∧ match r with
      | .ok v => ∃ v', VR μ' v v' ∧ Steps P (lone (b.atR a (.inRegion ops (i :: rest) :: k)) cs w) (lone (b.atR (a.put o.dst v') (.inRegion ops rest :: k)) cs w')
      | .pan v => ∃ v', VR μ' v v' ∧ Steps P (lone (b.atR a (.inRegion ops (i :: rest) :: k)) cs w) (lone { b.atR a (.inRegion ops (i :: rest) :: k) with mode := .panicking [{ v := v', recovered := false }] } cs w') := by
  have plain : ∀ (v : Value), evPlain P e h o = some (v, h') → ∃ μ' w', Step μ μ' h h' w w' ∧ ∃ v', VR μ' v v' ∧ Steps P (lone (b.atR a (.inRegion ops (i :: rest) :: k)) cs w) (lone (b.atR (a.put o.dst v') (.inRegion ops rest :: k)) cs w') := by
    intro v hp
    obtain ⟨nx, v', w', μ', h1, h2, h3, h4⟩ := evPlain_sound hP hp hev0 hr hf
    have hd := evPlain_nodefer hp
    refine ⟨μ', w', h3, v', h4, .one ?_⟩
    rcases h2 with rfl | ⟨rfl, rfl⟩
    · exact stepR_value ho hw hd h1
    · exact stepR_skipop ho hw hd h1
  have viaPlain : (evPlain P e h o).map (fun r => (Rs.ok r.1, r.2)) = some (r, h') → ∃ μ' w', Step μ μ' h h' w w' ∧ match r with
      | .ok v => ∃ v', VR μ' v v' ∧ Steps P (lone (b.atR a (.inRegion ops (i :: rest) :: k)) cs w) (lone (b.atR (a.put o.dst v') (.inRegion ops rest :: k)) cs w')
      | .pan v => ∃ v', VR μ' v v' ∧ Steps P (lone (b.atR a (.inRegion ops (i :: rest) :: k)) cs w) (lone { b.atR a (.inRegion ops (i :: rest) :: k) with mode := .panicking [{ v := v', recovered := false }] } cs w') := by
    intro hm
    obtain ⟨⟨v, h2⟩, hp, hq⟩ := Option.map_eq_some_iff.1 hm
    simp only [Prod.mk.injEq] at hq
    obtain ⟨rfl, rfl⟩ := hq
    exact plain v hp
  unfold evOp at he
  split at he
  · rename_i c hop
    split at he
    · rename_i f hcal
      have hev := hev0
      simp only [hop, Op.operands, Call.operands, hcal] at hev
      have hd : ∀ c', o.op ≠ .defer c' := fun c' => by rw [hop]; simp
      rcases hcall _ _ _ _ _ he μ w (a.eval f) (c.args.toList.map a.eval) hr hf (hev f (by simp)) (VRL.of_map _ fun x hx => hev x (by simp at hx; simp [hx])) with ⟨nx, fr, hrun, hnx, hgo⟩ | ⟨v, v', rfl, rfl, hv, _, hrun⟩
      case inr =>
        have hex : (execOp a.eval o).run P w = .ok (.value v') w := by
          unfold execOp
          rw [hop]
          have e1 : (c.args.toList.map a.eval).toArray = c.args.map a.eval := by apply Array.toList_inj.1; simp
          rw [e1] at hrun
          simp only [resolve, hcal]
          exact hrun
        exact ⟨μ, w, .refl hr hf, v', hv, .one (stepR_value ho hw hd hex)⟩
      have hex : (execOp a.eval o).run P w = .ok nx w := by
        unfold execOp
        rw [hop]
        have e1 : (c.args.toList.map a.eval).toArray = c.args.map a.eval := by apply Array.toList_inj.1; simp
        rw [e1] at hrun
        simp only [resolve, hcal]
        exact hrun
      obtain ⟨μ', w', hs, hres⟩ := hgo (b.atR a (.inRegion ops (i :: rest) :: k)) cs
      have hst : step P (lone (b.atR a (.inRegion ops (i :: rest) :: k)) cs w) = .next (lone fr (b.atR a (.inRegion ops (i :: rest) :: k) :: cs) w) := by
        rcases hnx with ⟨g, as, rfl, rfl⟩ | ⟨_, l, g, ts, x, y, rfl, rfl⟩
        · exact stepR_enter ho hw hd hex
        · exact stepR_round ho hw hd hex
      refine ⟨μ', w', hs, ?_⟩
      cases r with
      | ok v =>
        obtain ⟨v', hv, hsteps⟩ := hres
        exact ⟨v', hv, .head hst (by rw [← fin_atR ho]; exact hsteps)⟩
      | pan v =>
        obtain ⟨v', hv, hsteps⟩ := hres
        exact ⟨v', hv, .head hst hsteps⟩
    · exact viaPlain he
  · rename_i x hop
    have hx : VR μ (ev e x) (a.eval x) := hev0 x (by simp [hop, Op.operands])
    split at he
    case h_2 => simp at he
    case h_1 t v hv =>
    simp only [Option.some.injEq, Prod.mk.injEq] at he
    obtain ⟨rfl, rfl⟩ := he
    rw [hv] at hx
    have hd : ∀ c', o.op ≠ .defer c' := fun c' => by rw [hop]; simp
    generalize hax : a.eval x = v' at hx
    cases hx with
    | iface _ hvv =>
    rename_i v2
    refine ⟨μ, w, .refl hr hf, .iface t v2, .iface t hvv, .one (stepR_panic ho hw hd ?_)⟩
    unfold execOp
    rw [hop]
    simp [hax, Instr.panic]
  · exact viaPlain he

theorem evs_sound {μ : Mu} {e : Env} {a : Act} (hE : EnvR μ e a.tmps) {o : Oper} (hg : o.op.operands.toList.all goodOpd = true) : ∀ x ∈ o.op.operands.toList, VR μ (ev e x) (a.eval x) :=
  fun x hx => ev_sound hE (List.all_eq_true.1 hg x hx)
theorem yielded_sound {μ : Mu} {e : Env} {tmps : Array Value} (hE : EnvR μ e tmps) (ops : Array Oper) (hd : ∀ (i : Nat) (o : Oper) d, ops[i]? = some o → o.dst = some d → d < tmps.size) (j : Nat) : yielded ops tmps j = yieldedA ops e j := by
  unfold yielded yieldedA
  cases hj : (ops[j]?).bind (·.dst) with
  | none => rfl
  | some d =>
    simp only [Option.bind_some]
    obtain ⟨o, ho, hod⟩ := Option.bind_eq_some_iff.1 hj
    have hlt := hd j o d ho hod
    have hr := hE d
    have e1 : tmps[d]? = some (tmps.getD d undef) := by simp [hlt]
    rw [e1]
    generalize tmps.getD d undef = v at hr ⊢
    generalize e d = u at hr ⊢
    cases hr <;> rfl
theorem wanted_sound {μ : Mu} {e : Env} {tmps : Array Value} (hE : EnvR μ e tmps) (ops : Array Oper) (hd : ∀ (i : Nat) (o : Oper) d, ops[i]? = some o → o.dst = some d → d < tmps.size) (o : Oper) : Region.wanted o (yielded ops tmps) = wantedA ops e o := by
  unfold Region.wanted wantedA
  cases o.guard with
  | none => rfl
  | some g => obtain ⟨j, want⟩ := g; simp [yielded_sound hE ops hd j]

theorem put_size (a : Act) (d : Option Nat) (v : Value) : (a.put d v).tmps.size = a.tmps.size := by
  cases d <;> simp [Act.put]
theorem put_defers (a : Act) (d : Option Nat) (v : Value) : (a.put d v).defers = a.defers := by
  cases d <;> simp [Act.put]
theorem EnvR.putE {μ : Mu} {e : Env} {a : Act} (h : EnvR μ e a.tmps) {d : Option Nat} (hd : ∀ x, d = some x → x < a.tmps.size) {v v' : Value} (hv : VR μ v v') : EnvR μ (putE e d v) (a.put d v').tmps := by
  cases d with
  | none => exact h
  | some x => exact h.put (hd x rfl) hv

/-- A region in the text's order. -/
theorem evOps_sound {P : Program} (hP : ProgOk P) {call : Value → Phi} (hcall : CallSound P call) {ops : Array Oper} : ∀ (l : List Oper) (is : List Nat), (is.map fun i => ops[i]?) = l.map some →
    ∀ e h x e' h', evOps call P ops l e h = some (x, e', h') → ∀ μ w a b k cs B0, Rel μ h w → Fresh μ h → EnvR μ e a.tmps → ops.toList.all (goodOper a.tmps.size) = true → MarksOk B0 μ h w a.defers → B0 ≤ w.heap.size →
    Goes P B0 μ h w a.tmps.size (lone (b.atR a (.inRegion ops is :: k)) cs w) b k cs x e' h'
  | [], is, his, e, h, x, e', h', he, μ, w, a, b, k, cs, B0, hr, hf, hE, hg, hm, hB => by
    have : is = [] := by cases is with | nil => rfl | cons i r => simp at his
    subst this
    simp only [evOps, Option.some.injEq, Prod.mk.injEq] at he
    obtain ⟨rfl, rfl, rfl⟩ := he
    exact ⟨μ, w, a, .refl hr hf, hE, rfl, hm, .one stepR_region_end⟩
  | o :: l, [], his, _, _, _, _, _, _, _, _, _, _, _, _, _, _, _, _, _, _, _ => by simp at his
  | o :: l, i :: is, his, e, h, x, e', h', he, μ, w, a, b, k, cs, B0, hr, hf, hE, hg, hm, hB => by
    simp only [List.map_cons, List.cons.injEq] at his
    obtain ⟨ho, his⟩ := his
    have hdst : ∀ (j : Nat) (o : Oper) d, ops[j]? = some o → o.dst = some d → d < a.tmps.size := by
      intro j o d hj hod
      have := List.all_eq_true.1 hg o (by simpa using Array.mem_of_getElem? hj)
      simp only [goodOper, hod, Bool.and_eq_true, decide_eq_true_eq] at this
      exact this.2
    have hgo : o.op.operands.toList.all goodOpd = true := by
      have := List.all_eq_true.1 hg o (by simpa using Array.mem_of_getElem? ho)
      simp only [goodOper, Bool.and_eq_true] at this
      exact this.1
    have hwa := wanted_sound hE ops hdst o
    simp only [evOps] at he
    split at he
    · rename_i hw
      rw [← hwa] at hw
      split at he
      · rename_i v h1 hop
        obtain ⟨μ1, w1, hs, v', hv, hst⟩ := op_sound hP hcall hop (evs_sound hE hgo) hr hf b k cs is ho hw
        have hE1 : EnvR μ1 (putE e o.dst v) (a.put o.dst v').tmps := (hE.mono hs.ext).putE (fun x hx => hdst i o x ho hx) hv
        obtain ⟨μ', w', a', g1, g2, g3, g4, g5⟩ := evOps_sound hP hcall l is his _ _ _ _ _ he μ1 w1 (a.put o.dst v') b k cs B0 hs.rel hs.fresh hE1 (by rw [put_size]; exact hg) (by rw [put_defers]; exact hm.step hf hs)
          (Nat.le_trans hB hs.pres.size)
        exact ⟨μ', w', a', hs.trans hf g1, g2, by rw [g3, put_size], g4, g5.of_steps hst⟩
      · rename_i v h1 hop
        obtain ⟨μ1, w1, hs, v', hv, hst⟩ := op_sound hP hcall hop (evs_sound hE hgo) hr hf b k cs is ho hw
        simp only [Option.some.injEq, Prod.mk.injEq] at he
        obtain ⟨rfl, rfl, rfl⟩ := he
        exact ⟨μ1, w1, a, hs, hE.mono hs.ext, rfl, hm.step hf hs, _, v', hv, hst⟩
      · simp at he
    · rename_i hw
      rw [← hwa] at hw
      have hsk : step P (lone (b.atR a (.inRegion ops (i :: is) :: k)) cs w) = .next (lone (b.atR (a.put o.dst undef) (.inRegion ops is :: k)) cs w) := by
        have := stepR_op_skip (P := P) (b := b) (a := a) (k := k) (cs := cs) (w := w) (ops := ops) (i := i) (rest := is) (by simp [ho]; simpa using hw)
        rw [ho] at this
        exact this
      have hE1 : EnvR μ (putE e o.dst undef) (a.put o.dst undef).tmps := hE.putE (fun x hx => hdst i o x ho hx) (.tuple .nil)
      obtain ⟨μ', w', a', g1, g2, g3, g4, g5⟩ := evOps_sound hP hcall l is his _ _ _ _ _ he μ w (a.put o.dst undef) b k cs B0 hr hf hE1 (by rw [put_size]; exact hg) (by rw [put_defers]; exact hm) hB
      exact ⟨μ', w', a', g1, g2, by rw [g3, put_size], g4, g5.of_steps (.one hsk)⟩
end Go.Proofs.Ytfehhihllenjiaa
/- The evaluator of code is sound: control, loops, ranges over functions. -/
set_option linter.all false
namespace Go.Proofs.Ytfehhihllenjiaa

/-- Regions that draw (shown elsewhere). -/
def DrawSound (P : Program) (calm : FuncId → Bool) (call : Value → Phi) : Prop :=
  ∀ id ops F S, drawOkF calm ops F = true → ∀ e h e' h', RunOk call P calm ops F S 0 ops.toList e h → evOps call P ops ops.toList e h = some (.normal, e', h') → ∀ μ w a b k cs B0, Rel μ h w → Fresh μ h → EnvR μ e a.tmps →
    ops.toList.all (goodOper a.tmps.size) = true → MarksOk B0 μ h w a.defers → B0 ≤ w.heap.size →
    Goes P B0 μ h w a.tmps.size (lone (b.atR a (.code (.region id ops true) :: k)) cs w) b k cs .normal e' h'

theorem drawOkF_nil {calm : FuncId → Bool} {ops : Array Oper} (h : drawOk calm ops = true) : drawOkF calm ops [] = true := by
  unfold drawOk at h
  unfold drawOkF
  simp only [Bool.and_eq_true] at h ⊢
  refine ⟨h.1, ?_⟩
  have h2 := h.2
  rw [List.all_eq_true] at h2 ⊢
  intro j hj
  have h3 := h2 j hj
  rw [List.all_eq_true] at h3 ⊢
  intro i hi
  have h4 := h3 i hi
  unfold pairOk at h4
  unfold pairOkF
  split at h4
  · rename_i oi oj h5 h6
    simp only [h5, h6, Bool.and_eq_true, Bool.or_eq_true] at h4 ⊢
    refine ⟨h4.1, ?_⟩
    rcases h4.2 with h7 | h7
    · exact .inl h7
    · exact .inr ⟨h7.2, .inl h7.1⟩
  · cases h4
theorem RunOk_nil {call : Value → Phi} {P : Program} {calm : FuncId → Bool} {all : Array Oper} {S : Nat → Prop} : ∀ (l : List Oper) (i : Nat) (e e' : Env) (h h' : Heap), evOps call P all l e h = some (.normal, e', h') → RunOk call P calm all [] S i l e h
  | [], _, _, _, _, _, _ => trivial
  | o :: l, i, e, e', h, h', he => by
    simp only [evOps] at he
    simp only [RunOk]
    split at he
    · rename_i hw
      rw [if_pos hw]
      split at he
      · rename_i v h1 hop
        rw [hop]
        exact ⟨fun hF => by simp at hF, RunOk_nil l (i + 1) _ _ _ _ he⟩
      · simp at he
      · simp at he
    · rename_i hw
      rw [if_neg hw]
      exact RunOk_nil l (i + 1) _ _ _ _ he
theorem drawE_spec {calm : FuncId → Bool} {call : Value → Phi} {P : Program} {ops : Array Oper} {e e' : Env} {h h' : Heap} {x : X} (he : drawE calm call P ops e h = some (x, e', h')) :
    x = .normal ∧ ∃ F S, drawOkF calm ops F = true ∧ RunOk call P calm ops F S 0 ops.toList e h ∧ evOps call P ops ops.toList e h = some (.normal, e', h') := by
  have norm : normalOnly (evOps call P ops ops.toList e h) = some (x, e', h') → x = .normal ∧ evOps call P ops ops.toList e h = some (.normal, e', h') := by
    intro hn
    unfold normalOnly at hn
    split at hn
    · rename_i e1 h1 hev
      simp only [Option.some.injEq, Prod.mk.injEq] at hn
      obtain ⟨rfl, rfl, rfl⟩ := hn
      exact ⟨rfl, hev⟩
    · cases hn
  unfold drawE at he
  split at he
  · rename_i hok
    obtain ⟨h1, h2⟩ := norm he
    exact ⟨h1, [], fun _ => False, drawOkF_nil hok, RunOk_nil _ _ _ _ _ _ h2, h2⟩
  · split at he
    · rename_i hF
      obtain ⟨F, S, h1, h2⟩ := hF
      obtain ⟨h3, h4⟩ := norm he
      exact ⟨h3, F, S, h1, h2, h4⟩
    · cases he

theorem run_getObj_loop {P : Program} {w : World} {l : Nat} {r : Loop} (h : w.heap[l]? = some (.loop r)) : (Instr.getLoop l).run P w = .ok r w := by
  simp [Instr.getLoop, getObj, Sem.run, Sem.run_bind', h]
theorem run_setObj_loop {P : Program} {w : World} {l : Nat} {r : Obj} (h : w.heap[l]? = some r) (hr : ∀ c e f, r ≠ .cells c e f) (o : Obj) : (setObj l o).run P w = .ok () (w.setBlk l o) := by
  cases r <;> first | exact absurd rfl (hr _ _ _) | (simp only [setObj, Sem.run, h]; rfl)

theorem Goes.of_steps {P : Program} {B0 : Nat} {μ : Mu} {h : Heap} {w : World} {n : Nat} {M M1 : Machine} {b : Frame} {k : List Item} {cs : List Frame} {x : X} {e' : Env} {h' : Heap} (s : Steps P M M1)
    (g : Goes P B0 μ h w n M1 b k cs x e' h') : Goes P B0 μ h w n M b k cs x e' h' := by
  obtain ⟨μ', w', a', g1, g2, g3, g4, g5⟩ := g
  exact ⟨μ', w', a', g1, g2, g3, g4, g5.of_steps s⟩

/-- What is left by an item that catches nothing. -/
theorem Arr.pass {P : Program} {M : Machine} {b : Frame} {it : Item} {k : List Item} {cs : List Frame} {μ : Mu} {x : X} {a : Act} {w : World} (hit : ∀ id, exitTo id (it :: k) = exitTo id k) (hx : ∀ y, x = y → y ≠ .normal)
    (h : Arr P M b (it :: k) cs μ x a w) : Arr P M b k cs μ x a w := by
  cases x with
  | normal => exact absurd rfl (hx _ rfl)
  | exit id => obtain ⟨k1, e, s⟩ := h; exact ⟨k1, e.trans (hit id), s⟩
  | ret => exact h
  | pan v => exact h

theorem iter_sound {P : Program} {around : Option Nat} {c : Code} {f : Ev} (hc : CodeSound P around c f) : ∀ (n : Nat) e h x e' h', iter f n e h = some (x, e', h') → ∀ μ w a b k cs B0, RoundR μ around b.roundOf → Rel μ h w → Fresh μ h → EnvR μ e a.tmps → goodCode a.tmps.size c = true → MarksOk B0 μ h w a.defers → B0 ≤ w.heap.size →
    Goes P B0 μ h w a.tmps.size (lone (b.atR a (.code c :: .inLoop c :: k)) cs w) b k cs x e' h'
  | 0, e, h, x, e', h', he, _, _, _, _, _, _, _, _, _, _, _, _, _, _ => by simp [iter] at he
  | n + 1, e, h, x, e', h', he, μ, w, a, b, k, cs, B0, hR, hr, hf, hE, hg, hm, hB => by
    simp only [iter] at he
    split at he
    · rename_i e1 h1 hfe
      obtain ⟨μ1, w1, a1, g1, g2, g3, g4, g5⟩ := hc e h _ _ _ hfe μ w a b (.inLoop c :: k) cs B0 hR hr hf hE hg hm hB
      obtain ⟨μ', w', a', k1, k2, k3, k4, k5⟩ := iter_sound hc n e1 h1 x e' h' he μ1 w1 a1 b k cs B0 (hR.mono g1.ext) g1.rel g1.fresh g2 (by rw [g3]; exact hg) g4 (Nat.le_trans hB g1.pres.size)
      exact ⟨μ', w', a', g1.trans hf k1, k2, by rw [k3, g3], k4, k5.of_steps (Steps.trans g5 (.one stepR_inLoop))⟩
    · rename_i hn
      obtain ⟨μ1, w1, a1, g1, g2, g3, g4, g5⟩ := hc e h _ _ _ he μ w a b (.inLoop c :: k) cs B0 hR hr hf hE hg hm hB
      refine ⟨μ1, w1, a1, g1, g2, g3, g4, g5.pass (fun id => by simp [exitTo]) ?_⟩
      rintro y rfl rfl
      exact hn _ _ he

theorem range_sound {P : Program} {call : Value → Phi} (hcall : CallSound P call) (around : Option Nat) (f : Operand) (ps : Array Tmp) (assign body : Code) : CodeSound P around (.rangeFunc f ps assign body) (evRange call around f ps assign body) := by
  intro e h x e' h' he μ w a b k cs B0 hR hr hf hE hg hm hB
  simp only [goodCode, Bool.and_eq_true] at hg
  obtain ⟨⟨⟨hgf, hgp⟩, hga⟩, hgb⟩ := hg
  unfold evRange at he
  split at he
  case isFalse => simp at he
  case isTrue hcnd =>
  obtain ⟨hfn, hao⟩ := hcnd
  -- the record
  obtain ⟨mark, wD, hmark⟩ : ∃ mark wD, (∀ D : World, D = wD → Step μ μ h h w D ∧ MarksOk B0 μ h D (mark ++ a.defers)) ∧ ∃ dl, (Instr.enterLoop b.fn a.tmps ps assign body b.roundOf).run P w =
      .ok (wD.heap.size, mark) (wD.alloc (.loop { state := .ready, pending := none, fn := b.fn, tmps := a.tmps, params := ps, assign := assign, body := body, defers := dl })) := by
    rcases hR with ⟨h1, h2⟩ | ⟨la, m, h1, h2, h3⟩
    · refine ⟨[{ target := .collected w.heap.size, args := #[] }], w.alloc (.deferred (some [])), ?_, w.heap.size, ?_⟩
      · rintro D rfl
        have s := alloc_none hr hf (.deferred (some []))
        refine ⟨s, ?_⟩
        obtain ⟨rs, hd, hn, hrs⟩ := hm.step hf s
        obtain ⟨rs0, hd0, hn0, hrs0⟩ := hm
        refine ⟨w.heap.size :: rs, by simp [hd], ?_, ?_⟩
        · refine List.nodup_cons.2 ⟨fun hmem => ?_, hn⟩
          have hmap : rs = rs0 := by
            have hinj : Function.Injective (fun r : Nat => ({ target := .collected r, args := #[] } : Deferred)) := fun x y hxy => by
              simp only [Deferred.mk.injEq, Target.collected.injEq, and_true] at hxy; exact hxy
            exact (List.map_inj_right (f := fun r : Nat => ({ target := .collected r, args := #[] } : Deferred)) (fun x y hxy => hinj hxy)).1 (hd.symm.trans hd0)
          subst hmap
          have := (Array.getElem?_eq_some_iff.1 (hrs0 _ hmem).2.1).1
          omega
        · intro r hmem
          rcases List.mem_cons.1 hmem with rfl | hmem
          · exact ⟨hB, alloc_get _ _, fun b' m' hb' hl' => by have := hr.lt hb' hl'; omega⟩
          · exact hrs r hmem
      · rw [h2]
        simp [Instr.enterLoop]
    · refine ⟨[], w, ?_, ?_⟩
      · rintro D rfl; exact ⟨.refl hr hf, by simpa using hm⟩
      · rw [h1] at hao
        simp only [aroundOk] at hao
        split at hao
        · rename_i L hL
          obtain ⟨_, r, hr1, _⟩ := hr.obj la m _ h2 hL
          refine ⟨r.defers, ?_⟩
          rw [h3]
          simp [Instr.enterLoop, run_getObj_loop hr1]
        · simp at hao
  obtain ⟨hDm, dl, hent⟩ := hmark
  obtain ⟨sD, mD⟩ := hDm wD rfl
  let L0 : ALoop := ⟨.ready, none, e, ps, assign, body⟩
  let m : Loc := ⟨wD.heap.size, 0, 0, 0, 0, .rw⟩
  let r0 : Loop := { state := .ready, pending := none, fn := b.fn, tmps := a.tmps, params := ps, assign := assign, body := body, defers := dl }
  have hx : Ext μ (upd μ h.nx (some m)) := fun b' m' hb' => by
    have := hf.lt hb'
    rw [upd_other _ _ (by omega)]; exact hb'
  have sL := Step.alloc sD.rel hf m (.loop L0) (.loop r0) rfl ⟨rfl, r0, alloc_get _ _, rfl, rfl, hE.mono hx, rfl, rfl, rfl, hga, hgb, hgp⟩
  have sDL := sD.trans hf sL
  have mDL := mD.step hf sL
  have hfv := ev_sound hE hgf
  generalize hev : ev e f = fv at he hfn hfv
  generalize hav : a.eval f = fv' at hfv
  have hcs : ∀ r2 h2, call fv [.func (.yield h.nx) #[] #[]] (h.push (.loop L0)) = some (r2, h2) → ∃ g as, ∃ d, (resolve a.eval (rangeCall f wD.heap.size) 0).run P (wD.alloc (.loop r0)) = .ok d (wD.alloc (.loop r0)) ∧
      (invoke d.target d.args).run P (wD.alloc (.loop r0)) = .ok (.enter g as) (wD.alloc (.loop r0)) ∧ ∀ (c : Frame) cs, ∃ μ' w', Step (upd μ h.nx (some m)) μ' (h.push (.loop L0)) h2 (wD.alloc (.loop r0)) w' ∧
        CallRes P μ' (Frame.enter P g as .normal) c cs (wD.alloc (.loop r0)) w' r2 := by
    intro r2 h2 hc
    have hy : VR (upd μ h.nx (some m)) (.func (.yield h.nx) #[] #[]) (.func (.yield wD.heap.size) #[] #[]) := .yield (m := m) (upd_same _ _ _)
    rcases hcall _ _ _ _ _ hc _ (wD.alloc (.loop r0)) fv' [.func (.yield wD.heap.size) #[] #[]] sL.rel sL.fresh (hfv.mono hx) (.single hy) with ⟨nx, fr, hrun, hnx, hgo⟩ | ⟨_, _, _, _, _, hcl, _⟩
    case inr => simp [closedV] at hcl
    rcases hnx with ⟨g, as, rfl, rfl⟩ | ⟨hno, _⟩
    · cases hfv with
      | func fn hfn' v1 v2 =>
        rename_i first first' cap cap'
        refine ⟨g, as, { target := .fn fn cap', args := first' ++ #[.func (.yield wD.heap.size) #[] #[]] }, ?_, ?_, hgo⟩
        · simp only [resolve, rangeCall, hav, Deferred.ofValue]; simp [Act.eval]
        · simpa [Deferred.ofValue] using hrun
      | _ => simp [isFunc] at hfn
    · rw [hno] at hfn; simp at hfn
  have fin : ∀ h2 L v, call fv [.func (.yield h.nx) #[] #[]] (h.push (.loop L0)) = some (.ok v, h2) → h2.obj h.nx = some (.loop L) → L.state ≠ .busy →
      ∃ μ' w', Step μ μ' h (h2.put h.nx (some (.loop { L with state := .exhausted }))) w w' ∧ MarksOk B0 μ' (h2.put h.nx (some (.loop { L with state := .exhausted }))) w' (mark ++ a.defers) ∧
        Steps P (lone (b.atR a (.code (.rangeFunc f ps assign body) :: k)) cs w) (lone (b.atR { a with defers := mark ++ a.defers } ((L.pending.map Item.code).toList ++ k)) cs w') := by
    intro h2 L v hc hL hbusy
    obtain ⟨g, as, d, hres, hinv, hgo⟩ := hcs _ _ hc
    obtain ⟨μ2, w2, s2, v', hv', hst⟩ := hgo (b.atR { a with defers := mark ++ a.defers } (.inRangeFunc wD.heap.size :: k)) cs
    rw [finish_atR_inRangeFunc] at hst
    have hμ2 : μ2 h.nx = some m := s2.ext _ _ (upd_same _ _ _)
    obtain ⟨hmk, r2, hr2, hs2, hp2, hE2, h3, h4, h5, h6, h7, h8⟩ := s2.rel.obj h.nx m _ hμ2 hL
    have hend : (Instr.endLoop wD.heap.size).run P w2 = .ok L.pending (w2.setBlk wD.heap.size (.loop { r2 with state := .exhausted })) := by
      have hnb : ¬ r2.state = .busy := by rw [hs2]; exact hbusy
      have hr2' : w2.heap[wD.heap.size]? = some (.loop r2) := hr2
      have hgo2 := run_getObj_loop (P := P) hr2'
      have hset := run_setObj_loop (P := P) hr2' (fun _ _ _ => by simp) (.loop { r2 with state := .exhausted })
      simp [Instr.endLoop, hgo2, hnb, hp2]
      rw [hp2] at hset
      simp [hset]
    have s3 := Step.put s2.rel s2.fresh hμ2 (by simp [hL]) (by simp [m]) (.loop { L with state := .exhausted }) (.loop { r2 with state := .exhausted })
      ⟨rfl, { r2 with state := .exhausted }, setBlk_get hr2, rfl, hp2, hE2, h3, h4, h5, h6, h7, h8⟩
    refine ⟨μ2, _, (sDL.trans hf s2).trans hf s3, (mDL.step sL.fresh s2).step s2.fresh s3, ?_⟩
    exact .head (stepR_rangeFunc hent hres hinv) (hst.trans (.one (stepR_endRangeFunc hend)))
  split at he
  · rename_i v h2 hc
    split at he
    case h_2 => simp at he
    case h_1 L hL =>
    split at he
    · simp at he
    · rename_i hbusy
      obtain ⟨μ', w', s, hmk, hst⟩ := fin h2 L v hc hL hbusy
      split at he
      · rename_i hp
        simp only [Option.some.injEq, Prod.mk.injEq] at he
        obtain ⟨rfl, rfl, rfl⟩ := he
        rw [hp] at hst
        exact ⟨μ', w', { a with defers := mark ++ a.defers }, s, hE.mono s.ext, rfl, hmk, hst⟩
      · rename_i id hp
        simp only [Option.some.injEq, Prod.mk.injEq] at he
        obtain ⟨rfl, rfl, rfl⟩ := he
        rw [hp] at hst
        exact ⟨μ', w', { a with defers := mark ++ a.defers }, s, hE.mono s.ext, rfl, hmk, k, rfl, hst⟩
      · rename_i hp
        simp only [Option.some.injEq, Prod.mk.injEq] at he
        obtain ⟨rfl, rfl, rfl⟩ := he
        rw [hp] at hst
        exact ⟨μ', w', { a with defers := mark ++ a.defers }, s, hE.mono s.ext, rfl, hmk, k, hst⟩
      · simp at he
  · rename_i v h2 hc
    simp only [Option.some.injEq, Prod.mk.injEq] at he
    obtain ⟨rfl, rfl, rfl⟩ := he
    obtain ⟨g, as, d, hres, hinv, hgo⟩ := hcs _ _ hc
    obtain ⟨μ2, w2, s2, v', hv', hst⟩ := hgo (b.atR { a with defers := mark ++ a.defers } (.inRangeFunc wD.heap.size :: k)) cs
    exact ⟨μ2, w2, { a with defers := mark ++ a.defers }, sDL.trans hf s2, hE.mono (sDL.trans hf s2).ext, rfl, mDL.step sL.fresh s2, _, v', hv', .head (stepR_rangeFunc hent hres hinv) hst⟩
  · simp at he

theorem evC_sound {cfg : Cfg} (hP : ProgOk cfg.P) {call : Value → Phi} (hcall : CallSound cfg.P call) (hdraw : DrawSound cfg.P cfg.calm call) (around : Option Nat) : ∀ c, CodeSound cfg.P around c (evC cfg call around c)
  | .skip => by
    intro e h x e' h' he μ w a b k cs B0 hR hr hf hE hg hm hB
    simp only [evC, Option.some.injEq, Prod.mk.injEq] at he
    obtain ⟨rfl, rfl, rfl⟩ := he
    exact ⟨μ, w, a, .refl hr hf, hE, rfl, hm, .one stepR_skip⟩
  | .region id ops draw => by
    intro e h x e' h' he μ w a b k cs B0 hR hr hf hE hg hm hB
    simp only [evC] at he
    cases draw with
    | true =>
      simp only [if_true] at he
      obtain ⟨rfl, F, S, hok, hrun, hev⟩ := drawE_spec he
      exact hdraw id ops F S hok e h _ _ hrun hev μ w a b k cs B0 hr hf hE hg hm hB
    | false =>
      simp only [Bool.false_eq_true, if_false] at he
      have his : ((List.range ops.size).map fun i => ops[i]?) = ops.toList.map some := by
        apply List.ext_getElem?
        intro i
        simp only [List.getElem?_map, List.getElem?_range]
        by_cases hi : i < ops.size
        · simp [hi]
        · simp [hi]
      exact (evOps_sound hP hcall ops.toList (List.range ops.size) his e h x e' h' he μ w a b k cs B0 hr hf hE hg hm hB).of_steps (.one stepR_region)
  | .seq c1 c2 => by
    intro e h x e' h' he μ w a b k cs B0 hR hr hf hE hg hm hB
    simp only [goodCode, Bool.and_eq_true] at hg
    simp only [evC] at he
    split at he
    · rename_i e1 h1 h1e
      obtain ⟨μ1, w1, a1, g1, g2, g3, g4, g5⟩ := evC_sound hP hcall hdraw around c1 e h _ _ _ h1e μ w a b (.code c2 :: k) cs B0 hR hr hf hE hg.1 hm hB
      obtain ⟨μ', w', a', k1, k2, k3, k4, k5⟩ := evC_sound hP hcall hdraw around c2 e1 h1 _ _ _ he μ1 w1 a1 b k cs B0 (hR.mono g1.ext) g1.rel g1.fresh g2 (by rw [g3]; exact hg.2) g4 (Nat.le_trans hB g1.pres.size)
      exact ⟨μ', w', a', g1.trans hf k1, k2, by rw [k3, g3], k4, k5.of_steps (.head stepR_seq g5)⟩
    · rename_i hn
      obtain ⟨μ1, w1, a1, g1, g2, g3, g4, g5⟩ := evC_sound hP hcall hdraw around c1 e h _ _ _ he μ w a b (.code c2 :: k) cs B0 hR hr hf hE hg.1 hm hB
      refine ⟨μ1, w1, a1, g1, g2, g3, g4, (g5.pass (fun id => by simp [exitTo]) ?_).of_steps (.one stepR_seq)⟩
      rintro y rfl rfl
      exact hn _ _ he
  | .cond c c1 c2 => by
    intro e h x e' h' he μ w a b k cs B0 hR hr hf hE hg hm hB
    simp only [goodCode, Bool.and_eq_true] at hg
    simp only [evC] at he
    have hc := ev_sound hE hg.1.1
    split at he
    · rename_i hb
      rw [hb] at hc
      have hb' : a.eval c = .bool true := by generalize a.eval c = v at hc; cases hc; rfl
      exact (evC_sound hP hcall hdraw around c1 e h _ _ _ he μ w a b k cs B0 hR hr hf hE hg.1.2 hm hB).of_steps (.one (by simpa using stepR_cond (x := c1) (y := c2) hb'))
    · rename_i hb
      rw [hb] at hc
      have hb' : a.eval c = .bool false := by generalize a.eval c = v at hc; cases hc; rfl
      exact (evC_sound hP hcall hdraw around c2 e h _ _ _ he μ w a b k cs B0 hR hr hf hE hg.2 hm hB).of_steps (.one (by simpa using stepR_cond (x := c1) (y := c2) hb'))
    · simp at he
  | .block id c => by
    intro e h x e' h' he μ w a b k cs B0 hR hr hf hE hg hm hB
    simp only [goodCode] at hg
    simp only [evC] at he
    split at he
    · rename_i i e1 h1 h1e
      obtain ⟨μ1, w1, a1, g1, g2, g3, g4, k1, g5, g6⟩ := evC_sound hP hcall hdraw around c e h _ _ _ h1e μ w a b (.inBlock id :: k) cs B0 hR hr hf hE hg hm hB
      split at he
      · rename_i hid
        subst hid
        simp only [Option.some.injEq, Prod.mk.injEq] at he
        obtain ⟨rfl, rfl, rfl⟩ := he
        refine ⟨μ1, w1, a1, g1, g2, g3, g4, ?_⟩
        have e1 : exitTo i k1 = some k := by rw [g5]; simp [exitTo]
        exact .head stepR_block (g6.trans (.one (stepR_exit e1)))
      · rename_i hid
        simp only [Option.some.injEq, Prod.mk.injEq] at he
        obtain ⟨rfl, rfl, rfl⟩ := he
        refine ⟨μ1, w1, a1, g1, g2, g3, g4, k1, ?_, .head stepR_block g6⟩
        rw [g5]
        have : (id == i) = false := by simp; exact fun h => hid h.symm
        simp [exitTo, this]
    · rename_i hn
      obtain ⟨μ1, w1, a1, g1, g2, g3, g4, g5⟩ := evC_sound hP hcall hdraw around c e h _ _ _ he μ w a b (.inBlock id :: k) cs B0 hR hr hf hE hg hm hB
      refine ⟨μ1, w1, a1, g1, g2, g3, g4, ?_⟩
      cases x with
      | normal => exact .head stepR_block (Steps.trans g5 (.one stepR_inBlock))
      | exit i => exact absurd he (hn _ _ _)
      | ret => exact Arr.of_steps (.one stepR_block) g5
      | pan v => exact Arr.of_steps (.one stepR_block) g5
  | .loop c => by
    intro e h x e' h' he μ w a b k cs B0 hR hr hf hE hg hm hB
    exact (iter_sound (evC_sound hP hcall hdraw around c) cfg.R e h x e' h' he μ w a b k cs B0 hR hr hf hE hg hm hB).of_steps (.one stepR_loop)
  | .rangeFunc f ps assign body => range_sound hcall around f ps assign body
  | .exit id => by
    intro e h x e' h' he μ w a b k cs B0 hR hr hf hE hg hm hB
    simp only [evC, Option.some.injEq, Prod.mk.injEq] at he
    obtain ⟨rfl, rfl, rfl⟩ := he
    exact ⟨μ, w, a, .refl hr hf, hE, rfl, hm, k, rfl, .refl _ _⟩
  | .ret => by
    intro e h x e' h' he μ w a b k cs B0 hR hr hf hE hg hm hB
    simp only [evC, Option.some.injEq, Prod.mk.injEq] at he
    obtain ⟨rfl, rfl, rfl⟩ := he
    exact ⟨μ, w, a, .refl hr hf, hE, rfl, hm, k, .refl _ _⟩
  | .scope _ => by intro e h x e' h' he; simp [evC] at he
  | .label _ => by intro e h x e' h' he; simp [evC] at he
  | .goto _ => by intro e h x e' h' he; simp [evC] at he
  | .refuse _ => by intro e h x e' h' he; simp [evC] at he
end Go.Proofs.Ytfehhihllenjiaa
/- Calls, rounds, whole functions. -/
set_option linter.all false
namespace Go.Proofs.Ytfehhihllenjiaa

theorem goodOper_mono {n m : Nat} (h : n ≤ m) {o : Oper} (hg : goodOper n o = true) : goodOper m o = true := by
  simp only [goodOper, Bool.and_eq_true] at hg ⊢
  refine ⟨hg.1, ?_⟩
  cases hd : o.dst with
  | none => rfl
  | some d =>
    have h2 := hg.2
    rw [hd] at h2
    simp only [decide_eq_true_eq] at h2 ⊢
    exact Nat.lt_of_lt_of_le h2 h
theorem goodCode_mono {n m : Nat} (h : n ≤ m) : ∀ c, goodCode n c = true → goodCode m c = true
  | .region _ ops _, hg => by
    simp only [goodCode, List.all_eq_true] at hg ⊢
    exact fun o ho => goodOper_mono h (hg o ho)
  | .seq a b, hg => by simp only [goodCode, Bool.and_eq_true] at hg ⊢; exact ⟨goodCode_mono h a hg.1, goodCode_mono h b hg.2⟩
  | .cond _ a b, hg => by simp only [goodCode, Bool.and_eq_true] at hg ⊢; exact ⟨⟨hg.1.1, goodCode_mono h a hg.1.2⟩, goodCode_mono h b hg.2⟩
  | .block _ b, hg => by simp only [goodCode] at hg ⊢; exact goodCode_mono h b hg
  | .loop b, hg => by simp only [goodCode] at hg ⊢; exact goodCode_mono h b hg
  | .scope b, hg => by simp only [goodCode] at hg ⊢; exact goodCode_mono h b hg
  | .rangeFunc _ ps a b, hg => by
    simp only [goodCode, Bool.and_eq_true, List.all_eq_true, decide_eq_true_eq] at hg ⊢
    exact ⟨⟨⟨hg.1.1.1, fun t ht => Nat.lt_of_lt_of_le (hg.1.1.2 t ht) h⟩, goodCode_mono h a hg.1.2⟩, goodCode_mono h b hg.2⟩
  | .skip, _ | .exit _, _ | .label _, _ | .goto _, _ | .ret, _ | .refuse _, _ => rfl

theorem Step.unmapped {μ μ' : Mu} {h h' : Heap} {w w' : World} (s : Step μ μ' h h' w w') {r : Nat} (hr : w.heap.size ≤ r) (hno : ∀ b m, μ' b = some m → (h'.obj b).isSome = true → m.B ≠ r) (ob : Obj) :
    Step μ μ' h h' w (w'.setBlk r ob) := by
  have hoth : ∀ C, C ≠ r → (w'.setBlk r ob).heap[C]? = w'.heap[C]? := fun C hC => setBlk_other hC
  refine ⟨s.ext, s.new, s.live, ⟨fun b m o hb ho => (s.rel.obj b m o hb ho).of_heap (hoth _ (hno b m hb (by simp [ho]))), s.rel.inj⟩, s.fresh, s.nx, s.full, ⟨s.pres.os, s.pres.tape, s.pres.output, by simpa [World.setBlk] using s.pres.size, fun B hB hn => ?_⟩⟩
  rw [hoth B (by omega)]
  exact s.pres.block B hB hn

/-- The marks are taken away. -/
theorem marks_leave {P : Program} {μ μ' : Mu} {h h' : Heap} {w : World} (fr : Frame) (cs : List Frame) (hmode : fr.mode ≠ .run) : ∀ (rs : List Nat) (w' : World), rs.Nodup → Step μ μ' h h' w w' →
    (∀ r ∈ rs, w.heap.size ≤ r ∧ w'.heap[r]? = some (.deferred (some [])) ∧ ∀ b m, μ' b = some m → (h'.obj b).isSome = true → m.B ≠ r) →
    ∃ w'', Step μ μ' h h' w w'' ∧ Steps P (lone { fr with defers := rs.map (fun r => { target := .collected r, args := #[] }) } cs w') (lone { fr with defers := [] } cs w'')
  | [], w', _, s, _ => ⟨w', s, .refl _ _⟩
  | r :: rs, w', hn, s, hr => by
    obtain ⟨h1, h2, h3⟩ := hr r (by simp)
    have hn' := List.nodup_cons.1 hn
    have htake : (Instr.takeDeferred r).run P w' = .ok [] (w'.setBlk r (.deferred none)) := by
      have hg : (getObj r).run P w' = .ok (.deferred (some [])) w' := by simp [getObj, Sem.run, h2]
      have hs := run_setObj_loop (P := P) h2 (fun _ _ _ => by simp) (.deferred none)
      simp [Instr.takeDeferred, hg, hs]
    obtain ⟨w'', s'', hst⟩ := marks_leave (P := P) fr cs hmode rs (w'.setBlk r (.deferred none)) hn'.2 (s.unmapped h1 h3 _) (fun q hq => by
      obtain ⟨q1, q2, q3⟩ := hr q (by simp [hq])
      exact ⟨q1, by rw [setBlk_other (fun e => hn'.1 (by rw [← e]; exact hq))]; exact q2, q3⟩)
    refine ⟨w'', s'', .head ?_ hst⟩
    have := step_collected (P := P) (fr := { fr with defers := (r :: rs).map (fun r => ({ target := .collected r, args := #[] } : Deferred)) }) (cs := cs) (w := w') (w' := w'.setBlk r (.deferred none)) (d := { target := .collected r, args := #[] }) (r := r)
      (ds := rs.map (fun r => { target := .collected r, args := #[] })) (calls := []) hmode rfl rfl htake
    simpa using this

def resSem (tmps : Array Value) : ResultVar → Sem Value
  | .tmp t => pure (tmps.getD t undef)
  | .cell a t => do loadVar t (← asAddr (tmps.getD a undef))
theorem results_eq (fn : Func) (tmps : Array Value) : results fn tmps = (do
    let vs ← fn.results.mapM (resSem tmps)
    pure (if h : vs.size = 1 then vs[0] else .tuple vs)) := by
  unfold results
  congr 1

theorem resSem_sound {P : Program} {e : Env} {h : Heap} {μ : Mu} {w : World} {tmps : Array Value} (hr : Rel μ h w) (hf : Fresh μ h) (hE : EnvR μ e tmps) {r : ResultVar} {v : Value} (hv : evResult P e h r = some v) :
    ∃ v', (resSem tmps r).run P w = .ok v' w ∧ VR μ v v' := by
  cases r with
  | tmp t =>
    simp only [evResult, Option.some.injEq] at hv
    subst hv
    exact ⟨tmps.getD t undef, rfl, hE t⟩
  | cell a t =>
    simp only [evResult] at hv
    have ha := hE a
    obtain ⟨v', hv', hvr⟩ := evLoad_sound (P := P) hv hr hf ha
    refine ⟨v', ?_, hvr⟩
    simp only [resSem]
    generalize tmps.getD a undef = u at ha hv' ⊢
    generalize e a = u0 at ha
    cases ha with
    | ptr hb => simpa [Instr.loadAt, Instr.sureAddr, asAddr] using hv'
    | _ => simp [Instr.loadAt, Instr.sureAddr] at hv'

theorem evResultList_sound {P : Program} {e : Env} {h : Heap} {μ : Mu} {w : World} {tmps : Array Value} (hr : Rel μ h w) (hf : Fresh μ h) (hE : EnvR μ e tmps) : ∀ (rs : List ResultVar) (l : List Value), evResultList P e h rs = some l →
    ∃ l', (rs.mapM (resSem tmps)).run P w = .ok l' w ∧ VRL μ l l'
  | [], l, h1 => by
    simp only [evResultList, Option.some.injEq] at h1
    subst h1
    exact ⟨[], rfl, .nil⟩
  | rv :: rs, l, h1 => by
    simp only [evResultList] at h1
    split at h1
    case h_2 => simp at h1
    case h_1 v hv =>
    obtain ⟨l0, hl0, rfl⟩ := Option.map_eq_some_iff.1 h1
    obtain ⟨l', hl', hvl⟩ := evResultList_sound hr hf hE rs l0 hl0
    obtain ⟨v', hv', hvr⟩ := resSem_sound (P := P) hr hf hE hv
    exact ⟨v' :: l', by simp [List.mapM_cons, hl', hv'], .cons hvr hvl⟩

theorem results_sound {P : Program} {e : Env} {h : Heap} {μ : Mu} {w : World} {tmps : Array Value} {fn : Func} {l : List Value} (hr : Rel μ h w) (hf : Fresh μ h) (hE : EnvR μ e tmps) (hl : evResultList P e h fn.results.toList = some l) :
    ∃ v', (results fn tmps).run P w = .ok v' w ∧ VR μ (packR l) v' := by
  obtain ⟨l', hl', hv⟩ := evResultList_sound (P := P) hr hf hE fn.results.toList l hl
  refine ⟨packR l', ?_, ?_⟩
  · rw [results_eq, Array.mapM_eq_mapM_toList]
    simp only [Sem.run_bind, Sem.run_map, hl', Result.andThen_ok, Sem.run_pure]
    match l' with
    | [] => simp [packR]
    | [v] => simp [packR]
    | v :: u :: r => simp [packR]
  · match l, l', hv with
    | _, _, .nil => exact .tuple .nil
    | _, _, .cons h1 .nil => exact h1
    | _, _, .cons h1 (.cons h2 t) => exact .tuple (.cons h1 (.cons h2 t))

theorem envOf_sound {μ : Mu} {args args' : List Value} (h : VRL μ args args') (n : Nat) : EnvR μ (envOf args) (args'.toArray ++ Array.replicate (n - args'.length) undef) := by
  intro t
  have hlen := h.length
  unfold envOf
  cases ht : args[t]? with
  | some v =>
    obtain ⟨v', hv', hr⟩ := h.get ht
    have hlt : t < args'.length := (List.getElem?_eq_some_iff.1 hv').1
    have e1 : (args'.toArray ++ Array.replicate (n - args'.length) undef).getD t undef = v' := by
      simp [Array.getElem?_append, hlt]
      have := (List.getElem?_eq_some_iff.1 hv').2
      exact this
    rw [e1]
    simpa [List.getD, ht] using hr
  | none =>
    have hge : args'.length ≤ t := by
      have := List.getElem?_eq_none_iff.1 ht; omega
    have e1 : (args'.toArray ++ Array.replicate (n - args'.length) undef).getD t undef = undef := by
      have : ¬ t < args'.length := by omega
      simp [Array.getElem?_append, this, Array.getElem?_replicate]
      split <;> rfl
    rw [e1]
    simp only [List.getD, ht, Option.getD_none]
    exact .tuple .nil

/-- A whole function. -/
theorem body_sound {P : Program} {rec : Option Nat → Code → Ev} (hrec : ∀ around c, CodeSound P around c (rec around c)) {f : FuncId} {fn : Func} (hfn : P.funcs[f]? = some fn) (hg : goodFn fn = true) : SimF P f (evBody P rec fn) := by
  intro μ h w args args' r h' hr hf ha he
  unfold evBody at he
  unfold goodFn at hg
  cases hb : fn.body with
  | none => simp [hb] at he
  | some c =>
  simp only [hb] at he hg
  intro cs
  let b : Frame := { (default : Frame) with fn := f, kind := .normal }
  let a0 : Act := { tmps := args'.toArray ++ Array.replicate (fn.ntmps - args'.toArray.size) undef, defers := [] }
  have henter : Frame.enter P f args'.toArray .normal = b.atR a0 [.code c] := by
    simp [Frame.enter, Frame.atR, hfn, hb, b, a0]
    rfl
  have hE0 : EnvR μ (envOf args) a0.tmps := by simpa [a0] using envOf_sound ha fn.ntmps
  have hsz : fn.ntmps ≤ a0.tmps.size := by simp [a0]; omega
  have main : ∀ x e1 h1, rec none c (envOf args) h = some (x, e1, h1) → Goes P w.heap.size μ h w a0.tmps.size (lone (Frame.enter P f args'.toArray .normal) cs w) b [] cs x e1 h1 := by
    intro x e1 h1 hc
    rw [henter]
    exact hrec none c _ _ _ _ _ hc μ w a0 b [] cs w.heap.size (.inl ⟨rfl, rfl⟩) hr hf hE0 (goodCode_mono hsz c hg) (.nil _ _ _ _) (Nat.le_refl _)
  -- the way out
  have out : ∀ x e1 h1, rec none c (envOf args) h = some (x, e1, h1) → x = .normal ∨ x = .ret → ∀ l, evResultList P e1 h1 fn.results.toList = some l →
      ∃ e w' fr, (∃ μ', Step μ μ' h h1 w w' ∧ RsRel μ' (.ok (packR l)) e) ∧ Comes P (lone (Frame.enter P f args'.toArray .normal) cs w) (lone fr cs w') e ∧ fr.fn = f ∧ fr.leaving P w' e := by
    intro x e1 h1 hc hx l hl
    obtain ⟨μ1, w1, a1, g1, g2, g3, g4, g5⟩ := main x e1 h1 hc
    obtain ⟨k1, hst⟩ : ∃ k1, Steps P (lone (Frame.enter P f args'.toArray .normal) cs w) (lone { b.atR a1 k1 with mode := .returning } cs w1) := by
      rcases hx with rfl | rfl
      · exact ⟨_, Steps.trans g5 (.one (stepR_end rfl))⟩
      · obtain ⟨k1, s⟩ := g5
        exact ⟨_, s.trans (.one (stepR_ret rfl))⟩
    obtain ⟨rs, hds, hnd, hrs⟩ := g4
    obtain ⟨w2, s2, hst2⟩ := marks_leave (P := P) { b.atR a1 k1 with mode := .returning } cs (by simp) rs w1 hnd g1 hrs
    have hst2' : Steps P (lone { b.atR a1 k1 with mode := .returning } cs w1) (lone { b.atR a1 k1 with mode := .returning, defers := [] } cs w2) := by
      rw [← hds] at hst2
      exact hst2
    obtain ⟨v', hv', hvr⟩ := results_sound (P := P) (w := w2) s2.rel s2.fresh g2 hl
    refine ⟨.returned v', w2, { b.atR a1 k1 with mode := .returning, defers := [] }, ⟨μ1, s2, hvr⟩, hst.trans hst2', rfl, rfl, rfl, rfl, fn, hfn, hv'⟩
  split at he
  · rename_i e1 h1 hc
    obtain ⟨l, hl, he⟩ := Option.map_eq_some_iff.1 he
    simp only [Prod.mk.injEq] at he
    obtain ⟨rfl, rfl⟩ := he
    exact out _ _ _ hc (.inl rfl) l hl
  · rename_i e1 h1 hc
    obtain ⟨l, hl, he⟩ := Option.map_eq_some_iff.1 he
    simp only [Prod.mk.injEq] at he
    obtain ⟨rfl, rfl⟩ := he
    exact out _ _ _ hc (.inr rfl) l hl
  · rename_i v e1 h1 hc
    simp only [Option.some.injEq, Prod.mk.injEq] at he
    obtain ⟨rfl, rfl⟩ := he
    obtain ⟨μ1, w1, a1, g1, g2, g3, g4, k1, v', hv', hst⟩ := main _ _ _ hc
    obtain ⟨rs, hds, hnd, hrs⟩ := g4
    obtain ⟨w2, s2, hst2⟩ := marks_leave (P := P) { b.atR a1 k1 with mode := .panicking [{ v := v', recovered := false }] } cs (by simp) rs w1 hnd g1 hrs
    rw [← hds] at hst2
    exact ⟨.panicked [{ v := v', recovered := false }], w2, _, ⟨μ1, s2, v', rfl, hv'⟩, hst.trans hst2, rfl, rfl, rfl, fn, hfn⟩
  · simp at he
end Go.Proofs.Ytfehhihllenjiaa
/- Rounds, calls, and the evaluator of a whole program. -/
set_option linter.all false
namespace Go.Proofs.Ytfehhihllenjiaa

theorem bindE_sound {μ : Mu} : ∀ (ts : List Tmp) (as as' : List Value) (e : Env) (tmps : Array Value), EnvR μ e tmps → VRL μ as as' → (∀ t ∈ ts, t < tmps.size) →
    EnvR μ (bindE e ts as) ((ts.zip as').foldl (fun tmps (p : Tmp × Value) => tmps.setIfInBounds p.1 p.2) tmps) ∧ ((ts.zip as').foldl (fun tmps (p : Tmp × Value) => tmps.setIfInBounds p.1 p.2) tmps).size = tmps.size
  | [], as, as', e, tmps, hE, _, _ => by simp [bindE]; exact hE
  | t :: ts, [], as', e, tmps, hE, h, _ => by cases h; simp [bindE]; exact hE
  | t :: ts, a :: as, _, e, tmps, hE, .cons hv hl, ht => by
    have hE1 := hE.put (ht t (by simp)) hv
    have := bindE_sound ts as _ (upd e t a) (tmps.setIfInBounds t _) hE1 hl (fun x hx => by simpa using ht x (by simp [hx]))
    simpa [bindE] using this

theorem round_sound {P : Program} {rec : Option Nat → Code → Ev} (hrec : ∀ around c, CodeSound P around c (rec around c)) {l : Nat} {args : List Value} {h h' : Heap} {r : Rs} (he : evRound rec l args h = some (r, h'))
    {μ : Mu} {w : World} {m : Loc} {args' : List Value} (hr : Rel μ h w) (hf : Fresh μ h) (hl : μ l = some m) (ha : VRL μ args args') :
    ∃ g ts x y, (Instr.yield m.B args'.toArray).run P w = .ok (.round m.B g ts x y) w ∧ ∀ (c : Frame) cs, ∃ μ' w' v', r = .ok v' ∧ Step μ μ' h h' w w' ∧ VR μ' v' v' ∧
      Steps P (lone (Frame.round m.B g ts x y .normal) (c :: cs) w) (lone (c.finish v') cs w') := by
  unfold evRound at he
  split at he
  case h_2 => simp at he
  case h_1 L hL =>
  obtain ⟨hmk, r0, hr0, hs0, hp0, hE0, q3, q4, q5, q6, q7, q8⟩ := hr.obj l m _ hl hL
  split at he
  case isFalse => simp at he
  case isTrue hcnd =>
  obtain ⟨hready, hlen⟩ := hcnd
  have hal := ha.length
  let ts0 := (L.params.toList.zip args').foldl (fun tmps (p : Tmp × Value) => tmps.setIfInBounds p.1 p.2) r0.tmps
  obtain ⟨hE1, hsz1⟩ := bindE_sound (μ := μ) L.params.toList args args' L.tmps r0.tmps hE0 ha (fun t ht => by simpa using List.all_eq_true.1 q8 t ht)
  refine ⟨r0.fn, ts0, r0.assign, r0.body, ?_, ?_⟩
  · have hg := run_getObj_loop (P := P) hr0
    have hn : args'.length = r0.params.size := by rw [q3]; omega
    have hz : ((r0.params.zip args'.toArray).foldl (fun tmps (x : Tmp × Value) => tmps.setIfInBounds x.1 x.2) r0.tmps) = ts0 := by
      rw [← Array.foldl_toList, Array.toList_zip, q3]
    simp only [Instr.yield, Sem.run_bind, hg, Result.andThen_ok, List.size_toArray, hn, ne_eq, not_true_eq_false, if_false, Sem.run_pure]
    exact congrArg (fun q => Result.ok (Next.round m.B r0.fn q r0.assign r0.body) w) hz
  · intro c cs
    let b : Frame := { (default : Frame) with fn := r0.fn, kind := .normal, roundOf := some m.B }
    let a0 : Act := { tmps := ts0, defers := [] }
    have hb0 : Frame.round m.B r0.fn ts0 r0.assign r0.body .normal = b.atR a0 [.code r0.assign, .beginRound, .code r0.body] := by
      simp [Frame.round, Frame.atR, b, a0]
    have hRR : ∀ μ', Ext μ μ' → RoundR μ' (some l) b.roundOf := fun μ' hx => .inr ⟨l, m, rfl, hx _ _ hl, rfl⟩
    split at he
    case h_2 => simp at he
    case h_1 e1 h1 hassign =>
    have hga : goodCode a0.tmps.size L.assign = true := by simp only [a0, ts0, hsz1]; exact q6
    have hgb : goodCode a0.tmps.size L.body = true := by simp only [a0, ts0, hsz1]; exact q7
    obtain ⟨μ1, w1, a1, g1, g2, g3, g4, g5⟩ := hrec (some l) L.assign _ _ _ _ _ hassign μ w a0 b [.beginRound, .code r0.body] (c :: cs) w.heap.size (hRR μ (.refl _)) hr hf hE1 hga (.nil _ _ _ _) (Nat.le_refl _)
    split at he
    case h_2 => simp at he
    case h_1 L1 hL1 =>
    split at he
    case isFalse => simp at he
    case isTrue hready1 =>
    split at he
    case h_2 => simp at he
    case h_1 x e2 h2 hbody =>
    have hl1 := g1.ext _ _ hl
    obtain ⟨_, r1, hr1, hs1, hp1, hEr1, t3, t4, t5, t6, t7, t8⟩ := g1.rel.obj l m _ hl1 hL1
    have hbegin : (Instr.beginRound m.B).run P w1 = .ok () (w1.setBlk m.B (.loop { r1 with state := .busy })) := by
      have hg := run_getObj_loop (P := P) hr1
      have hset := run_setObj_loop (P := P) hr1 (fun _ _ _ => by simp) (.loop { r1 with state := .busy })
      have hst : r1.state = .ready := by rw [hs1]; exact hready1
      simp only [Instr.beginRound, Sem.run_bind, hg, Result.andThen_ok, hset, hst]
      rfl
    have sb := Step.put g1.rel g1.fresh hl1 (by simp [hL1]) (by rw [hmk]; simp) (.loop { L1 with state := .busy }) (.loop { r1 with state := .busy }) ⟨hmk, { r1 with state := .busy }, setBlk_get hr1, rfl, hp1, hEr1, t3, t4, t5, t6, t7, t8⟩
    obtain ⟨μ2, w2, a2, k1, k2, k3, k4, k5⟩ := hrec (some l) L.body _ _ _ _ _ hbody μ1 _ a1 b [] (c :: cs) w.heap.size (hRR μ1 g1.ext) sb.rel sb.fresh g2 (by rw [g3]; exact hgb) (g4.step g1.fresh sb)
      (by have := g1.pres.size; have := sb.pres.size; omega)
    have hsteps : Steps P (lone (Frame.round m.B r0.fn ts0 r0.assign r0.body .normal) (c :: cs) w) (lone (b.atR a1 [.code r0.body]) (c :: cs) (w1.setBlk m.B (.loop { r1 with state := .busy }))) := by
      rw [hb0, q4]
      exact Steps.trans g5 (.one (stepR_beginRound rfl hbegin))
    have hsteps : Steps P (lone (Frame.round m.B r0.fn ts0 r0.assign r0.body .normal) (c :: cs) w) (lone (b.atR a1 [.code L.body]) (c :: cs) (w1.setBlk m.B (.loop { r1 with state := .busy }))) := by
      rw [← q5]; exact hsteps
    have s12 : Step μ μ2 h h2 w w2 := (g1.trans hf sb).trans hf k1
    have hl2 : μ2 l = some m := s12.ext _ _ hl
    split at he
    case h_2 => simp at he
    case h_1 L2 hL2 =>
    obtain ⟨_, r2, hr2, hs2, hp2, hEr2, u3, u4, u5, u6, u7, u8⟩ := s12.rel.obj l m _ hl2 hL2
    have hendr : ∀ jump : Option Code, (Instr.endRound m.B jump).run P w2 = .ok (.bool jump.isNone) (w2.setBlk m.B (.loop { r2 with state := if jump.isNone then .ready else .done, pending := jump })) := by
      intro jump
      have hg := run_getObj_loop (P := P) hr2
      have hset := run_setObj_loop (P := P) hr2 (fun _ _ _ => by simp) (.loop { r2 with state := if jump.isNone then .ready else .done, pending := jump })
      simp only [Instr.endRound, Sem.run_bind, hg, Result.andThen_ok, hset]
      rfl
    have sp : ∀ (st : LoopState) (pd : Option Code), Step μ μ2 h (h2.put l (some (.loop { L2 with state := st, pending := pd }))) w (w2.setBlk m.B (.loop { r2 with state := st, pending := pd })) := fun st pd =>
      s12.trans hf (Step.put s12.rel s12.fresh hl2 (by simp [hL2]) (by rw [hmk]; simp) (.loop { L2 with state := st, pending := pd }) (.loop { r2 with state := st, pending := pd }) ⟨hmk, { r2 with state := st, pending := pd }, setBlk_get hr2, rfl, rfl, hEr2, u3, u4, u5, u6, u7, u8⟩)
    split at he
    · simp only [Option.some.injEq, Prod.mk.injEq] at he
      obtain ⟨rfl, rfl⟩ := he
      exact ⟨μ2, _, .bool true, rfl, sp .ready none, .bool _, (hsteps.trans k5).trans (.one (stepR_round_end rfl rfl (hendr none)))⟩
    · simp only [Option.some.injEq, Prod.mk.injEq] at he
      obtain ⟨rfl, rfl⟩ := he
      obtain ⟨k1', hk, hs⟩ := k5
      exact ⟨μ2, _, .bool false, rfl, sp .done (some (.exit _)), .bool _, (hsteps.trans hs).trans (.one (stepR_round_exit rfl rfl (by rw [hk]; rfl) (hendr (some (.exit _)))))⟩
    · simp only [Option.some.injEq, Prod.mk.injEq] at he
      obtain ⟨rfl, rfl⟩ := he
      obtain ⟨k1', hs⟩ := k5
      exact ⟨μ2, _, .bool false, rfl, sp .done (some .ret), .bool _, (hsteps.trans hs).trans (.one (stepR_round_ret rfl rfl (hendr (some .ret))))⟩
    · simp at he

theorem run_callFunc {P : Program} {f : FuncId} {fn : Func} (hfn : P.funcs[f]? = some fn) (h1 : (fn.name == "runtime.NumGoroutine") = false) (h2 : fn.body.isNone = false) (args : Array Value) (w : World) : (callFunc f args).run P w = .ok (.enter f args) w := by
  simp only [callFunc, Sem.run_bind, run_program, Result.andThen_ok, hfn, h1, h2, Bool.false_eq_true, if_false]
  rfl

theorem SimF.call {P : Program} {f : FuncId} {φ : Phi} (hs : SimF P f φ) {μ : Mu} {h h' : Heap} {w : World} {args args' : List Value} {r : Rs} (hr : Rel μ h w) (hf : Fresh μ h) (ha : VRL μ args args') (he : φ args h = some (r, h')) (c : Frame) (cs : List Frame) :
    ∃ μ' w', Step μ μ' h h' w w' ∧ CallRes P μ' (Frame.enter P f args'.toArray .normal) c cs w w' r := by
  obtain ⟨e, w', fr, ⟨μ', s, hrel⟩, hcomes, hfn, hleave⟩ := hs μ h w args args' r h' hr hf ha he (c :: cs)
  refine ⟨μ', w', s, ?_⟩
  cases r with
  | ok v =>
    cases e with
    | returned v' => exact ⟨v', hrel, Steps.trans hcomes (.one (step_leave_returned hleave))⟩
    | panicked ch => exact hrel.elim
    | outgrown => exact hrel.elim
  | pan v =>
    cases e with
    | returned v' => exact hrel.elim
    | panicked ch =>
      obtain ⟨v', rfl, hv⟩ := hrel
      exact ⟨v', hv, Steps.trans hcomes (.one (step_leave_panicked hleave))⟩
    | outgrown => exact hrel.elim

theorem isoPhi_spec {φ : Phi} {args : List Value} {h h' : Heap} {r : Rs} (he : isoPhi φ args h = some (r, h')) :
    args.all (closedV 8) = true ∧ h' = h ∧ ∃ v h1, r = .ok v ∧ closedV 8 v = true ∧ φ args ⟨fun _ => none, 0⟩ = some (.ok v, h1) := by
  unfold isoPhi at he
  split at he
  case isFalse => cases he
  case isTrue hcl =>
  split at he
  case h_2 => cases he
  case h_1 v h1 hφ =>
  split at he
  case isFalse => cases he
  case isTrue hv =>
  simp only [Option.some.injEq, Prod.mk.injEq] at he
  obtain ⟨rfl, rfl⟩ := he
  exact ⟨hcl, rfl, v, h1, rfl, hv, hφ⟩
theorem SimF.iso {P : Program} {f : FuncId} {φ : Phi} (hs : SimF P f φ) : SimF P f (isoPhi φ) := by
  intro μ h w args args' r h' hr hf ha he
  obtain ⟨hcl, rfl, v, h1, rfl, hv, hφ⟩ := isoPhi_spec he
  have hargs : args' = args := VRL.closed_inv (fun a b hc hab => VR.closed_inv 8 a b hc hab) hcl ha
  subst hargs
  have h0 := hs (fun _ => none) ⟨fun _ => none, 0⟩ w args' args' _ h1 ⟨fun b m o hb => (by cases hb), fun b b' m m' hb => (by cases hb)⟩ (fun _ _ => rfl) (VRL.closed (fun a hc => VR.closed 8 a hc) args' hcl) hφ
  refine h0.mono fun e w' ⟨μ', st, hrel⟩ => ?_
  have hblk : ∀ B, B < w.heap.size → w'.heap[B]? = w.heap[B]? := fun B hB => st.pres.block B hB fun b m hb => (by cases hb)
  refine ⟨μ, ⟨.refl _, fun b m hb => .inl hb, fun b _ hl => hl, ⟨fun b m o hb ho => (hr.obj b m o hb ho).of_heap (hblk _ (hr.lt hb (by simp [ho]))), hr.inj⟩, hf, Nat.le_refl _, fun b h2 h3 => absurd h2 (Nat.not_le.2 h3),
    ⟨st.pres.os, st.pres.tape, st.pres.output, st.pres.size, fun B hB _ => hblk B hB⟩⟩, ?_⟩
  cases e with
  | returned v' =>
    have hvv : v' = v := VR.closed_inv 8 v v' hv hrel
    subst hvv
    exact VR.closed 8 v' hv
  | panicked ch => exact hrel.elim
  | outgrown => exact hrel.elim

theorem evCall_sound {cfg : Cfg} (hC : CfgOk cfg) {rec : Option Nat → Code → Ev} (hrec : ∀ around c, CodeSound cfg.P around c (rec around c)) : CallSound cfg.P (evCall cfg rec) := by
  intro f args h r h' he μ w f' args' hr hf hfv ha
  unfold evCall at he
  split at he
  · rename_i k first cap
    cases hfv with
    | func _ hfn v1 v2 =>
    rename_i first' cap'
    have hargs : VRL μ (first.toList ++ args ++ cap.toList) (first'.toList ++ args' ++ cap'.toList) := (v1.append ha).append v2
    have harr : (first'.toList ++ args' ++ cap'.toList).toArray = first' ++ args'.toArray ++ cap' := by apply Array.toList_inj.1; simp
    have build : ∀ φ, SimF cfg.P k φ → (∃ fn, cfg.P.funcs[k]? = some fn ∧ (fn.name == "runtime.NumGoroutine") = false ∧ fn.body.isNone = false) → φ (first.toList ++ args ++ cap.toList) h = some (r, h') →
        ∃ nx fr, (do let d ← Deferred.ofValue (.func (.func k) first' cap') args'.toArray; invoke d.target d.args : Sem Next).run cfg.P w = .ok nx w ∧
      ((∃ g as, nx = .enter g as ∧ fr = Frame.enter cfg.P g as .normal) ∨ isFunc (.func (.func k) first cap) = false ∧ ∃ l g ts a b, nx = .round l g ts a b ∧ fr = Frame.round l g ts a b .normal) ∧
      ∀ (c : Frame) cs, ∃ μ' w', Step μ μ' h h' w w' ∧ CallRes cfg.P μ' fr c cs w w' r := by
      rintro φ hsim ⟨fn, hfn1, hn, hb⟩ hφ
      refine ⟨.enter k (first' ++ args'.toArray ++ cap'), _, ?_, .inl ⟨_, _, rfl, rfl⟩, fun c cs => ?_⟩
      · simp only [Deferred.ofValue, Sem.run_bind, Sem.run_pure, Result.andThen_ok, invoke, run_callFunc hfn1 hn hb]
      · rw [← harr]
        exact hsim.call hr hf hargs hφ c cs
    split at he
    · rename_i φ hφ
      exact .inl (build φ (hC.spec k φ hφ) (hC.body k φ hφ) he)
    · split at he
      case isFalse =>
        split at he
        case h_2 => simp at he
        case h_1 g hg =>
        obtain ⟨v, hv, he2⟩ := Option.map_eq_some_iff.1 he
        simp only [Prod.mk.injEq] at he2
        obtain ⟨rfl, rfl⟩ := he2
        obtain ⟨hcl, hcv, hrun⟩ := hC.ext k g hg _ v hv
        have hargs2 := VRL.closed_inv (fun a b hc hab => VR.closed_inv 8 a b hc hab) hcl hargs
        refine .inr ⟨v, v, rfl, rfl, VR.closed 8 v hcv, ?_, ?_⟩
        · simp only [List.all_append, Bool.and_eq_true] at hcl
          exact hcl.1.2
        · simp only [Deferred.ofValue, Sem.run_bind, Sem.run_pure, Result.andThen_ok, invoke]
          rw [← harr, hargs2]
          exact hrun w
      case isTrue hin =>
      split at he
      case h_2 => simp at he
      case h_1 fn hfn1 =>
      obtain ⟨fn2, hfn2, hg, hn, hb⟩ := hC.inl k hin
      rw [hfn1] at hfn2; cases hfn2
      split at he
      · exact .inl (build _ (body_sound hrec hfn1 hg).iso ⟨fn, hfn1, hn, hb⟩ he)
      · exact .inl (build _ (body_sound hrec hfn1 hg) ⟨fn, hfn1, hn, hb⟩ he)
  · rename_i l first cap
    cases hfv with
    | func _ hfn => exact absurd rfl (hfn _)
    | yield hl =>
    rename_i m
    obtain ⟨g, ts, x, y, hy, hgo⟩ := round_sound hrec he hr hf hl ha
    refine .inl ⟨.round m.B g ts x y, _, ?_, .inr ⟨rfl, _, _, _, _, _, rfl, rfl⟩, fun c cs => ?_⟩
    · simp [Deferred.ofValue, invoke, hy]
    · obtain ⟨μ', w', v', rfl, s, hv, hst⟩ := hgo c cs
      exact ⟨μ', w', s, v', hv, hst⟩
  · simp at he

theorem isoPhi_any {φ : Phi} {args : List Value} (h g : Heap) : isoPhi φ args g = (isoPhi φ args h).map fun r => (r.1, g) := by
  unfold isoPhi
  by_cases hc : args.all (closedV 8) = true
  · rw [if_pos hc, if_pos hc]
    split
    · split <;> rfl
    · rfl
  · rw [if_neg hc, if_neg hc]; rfl
theorem evCall_calm {cfg : Cfg} (hC : CfgOk cfg) {rec : Option Nat → Code → Ev} : CalmOk (evCall cfg rec) cfg.calm := by
  intro k first cap args h g hq
  obtain ⟨h1, h2⟩ := hC.calm k hq
  simp only [evCall, h1, h2, if_true]
  by_cases hin : cfg.inl k = true
  · rw [if_pos hin, if_pos hin]
    cases cfg.P.funcs[k]? with
    | none => rfl
    | some fn => exact isoPhi_any h g
  · rw [if_neg hin, if_neg hin]
    cases cfg.ext k with
    | none => rfl
    | some g' => show Option.map _ _ = Option.map _ (Option.map _ _); rw [Option.map_map]; rfl
/-- The whole evaluator. -/
theorem evD_sound {cfg : Cfg} (hC : CfgOk cfg) (hdraw : ∀ call, CallSound cfg.P call → CalmOk call cfg.calm → DrawSound cfg.P cfg.calm call) :
    ∀ d around c, CodeSound cfg.P around c (evD cfg d around c)
  | 0, around, c => by intro e h x e' h' he; simp [evD] at he
  | d + 1, around, c => evC_sound hC.prog (evCall_sound hC (evD_sound hC hdraw d)) (hdraw _ (evCall_sound hC (evD_sound hC hdraw d)) (evCall_calm hC)) around c
end Go.Proofs.Ytfehhihllenjiaa
/- Regions that draw: whatever order is drawn, the end is that of the text's order. -/
set_option linter.all false
namespace Go.Proofs.Ytfehhihllenjiaa

/-- The run in the text's order, step by step. -/
structure Tr (call : Value → Phi) (P : Program) (ops : Array Oper) (e : Env) (h : Heap) (e' : Env) (h' : Heap) where
  E : Nat → Env
  H : Nat → Heap
  V : Nat → Value
  e0 : E 0 = e
  h0 : H 0 = h
  en : E ops.size = e'
  hn : H ops.size = h'
  st : ∀ i o, ops[i]? = some o → E (i + 1) = putE (E i) o.dst (V i) ∧
    ((wantedA ops (E i) o = true ∧ evOp call P (E i) (H i) o = some (.ok (V i), H (i + 1))) ∨ (wantedA ops (E i) o = false ∧ V i = undef ∧ H (i + 1) = H i))

theorem trace_from {call : Value → Phi} {P : Program} {ops : Array Oper} {e' : Env} {h' : Heap} : ∀ (l : List Oper) (k : Nat) (e : Env) (h : Heap), (∀ j, l[j]? = ops[k + j]?) → evOps call P ops l e h = some (.normal, e', h') →
    ∃ (E : Nat → Env) (H : Nat → Heap) (V : Nat → Value), E k = e ∧ H k = h ∧ E (k + l.length) = e' ∧ H (k + l.length) = h' ∧ ∀ i o, k ≤ i → i < k + l.length → ops[i]? = some o → E (i + 1) = putE (E i) o.dst (V i) ∧
    ((wantedA ops (E i) o = true ∧ evOp call P (E i) (H i) o = some (.ok (V i), H (i + 1))) ∨ (wantedA ops (E i) o = false ∧ V i = undef ∧ H (i + 1) = H i))
  | [], k, e, h, _, he => by
    simp only [evOps, Option.some.injEq, Prod.mk.injEq, true_and] at he
    obtain ⟨rfl, rfl⟩ := he
    exact ⟨fun _ => e, fun _ => h, fun _ => undef, rfl, rfl, rfl, rfl, fun i o h1 h2 => by simp at h2; omega⟩
  | o :: l, k, e, h, hl, he => by
    have hk : ops[k]? = some o := by have := hl 0; simpa using this.symm
    have hl' : ∀ j, l[j]? = ops[k + 1 + j]? := fun j => by have := hl (j + 1); simpa [Nat.add_assoc, Nat.add_comm 1 j] using this
    have build : ∀ (v : Value) (h1 : Heap), evOps call P ops l (putE e o.dst v) h1 = some (.normal, e', h') →
        ((wantedA ops e o = true ∧ evOp call P e h o = some (.ok v, h1)) ∨ (wantedA ops e o = false ∧ v = undef ∧ h1 = h)) →
        ∃ (E : Nat → Env) (H : Nat → Heap) (V : Nat → Value), E k = e ∧ H k = h ∧ E (k + (o :: l).length) = e' ∧ H (k + (o :: l).length) = h' ∧ ∀ i o', k ≤ i → i < k + (o :: l).length → ops[i]? = some o' → E (i + 1) = putE (E i) o'.dst (V i) ∧
    ((wantedA ops (E i) o' = true ∧ evOp call P (E i) (H i) o' = some (.ok (V i), H (i + 1))) ∨ (wantedA ops (E i) o' = false ∧ V i = undef ∧ H (i + 1) = H i)) := by
      intro v h1 hrest hstep
      obtain ⟨E, H, V, a1, a2, a3, a4, a5⟩ := trace_from l (k + 1) _ _ hl' hrest
      refine ⟨upd E k e, upd H k h, upd V k v, upd_same _ _ _, upd_same _ _ _, ?_, ?_, ?_⟩
      · rw [upd_other _ _ (by simp), ← a3]; congr 1; simp; omega
      · rw [upd_other _ _ (by simp), ← a4]; congr 1; simp; omega
      · intro i o' h1i h2i ho'
        by_cases hi : i = k
        · subst hi
          rw [hk] at ho'; cases ho'
          rw [upd_same, upd_same, upd_same, upd_other _ _ (by omega), upd_other _ _ (by omega), a1, a2]
          exact ⟨rfl, hstep⟩
        · rw [upd_other _ _ hi, upd_other _ _ hi, upd_other _ _ hi, upd_other _ _ (by omega), upd_other _ _ (by omega)]
          exact a5 i o' (by omega) (by simp at h2i; omega) ho'
    simp only [evOps] at he
    split at he
    · rename_i hw
      split at he
      · rename_i v h1 hop
        exact build v h1 he (.inl ⟨hw, hop⟩)
      · simp at he
      · simp at he
    · rename_i hw
      exact build undef h he (.inr ⟨by simpa using hw, rfl, rfl⟩)

theorem trace_exists {call : Value → Phi} {P : Program} {ops : Array Oper} {e e' : Env} {h h' : Heap} (he : evOps call P ops ops.toList e h = some (.normal, e', h')) : Nonempty (Tr call P ops e h e' h') := by
  obtain ⟨E, H, V, a1, a2, a3, a4, a5⟩ := trace_from ops.toList 0 e h (fun j => by simp) he
  exact ⟨⟨E, H, V, a1, a2, by simpa using a3, by simpa using a4, fun i o ho => a5 i o (Nat.zero_le _) (by
    have := (Array.getElem?_eq_some_iff.1 ho).1; simpa using this) ho⟩⟩

/-- What an operation of a class leaves alone. -/
theorem push_local {h g : Heap} (hn : g.nx = h.nx) (k : Kind) (es : Nat) (cs : List Value) :
    (∀ b, b < h.nx → (newRowH h k es cs).obj b = h.obj b) ∧ (newRowH g k es cs).nx = (newRowH h k es cs).nx ∧ ∀ b, (newRowH g k es cs).obj b = if h.nx ≤ b ∧ b < (newRowH h k es cs).nx then (newRowH h k es cs).obj b else g.obj b := by
  refine ⟨fun b hb => upd_other _ _ (by omega), by simp [newRowH, Heap.push, hn], fun b => ?_⟩
  by_cases hb : b = h.nx
  · subst hb
    have : h.nx ≤ h.nx ∧ h.nx < (newRowH h k es cs).nx := ⟨Nat.le_refl _, Nat.lt_succ_self _⟩
    rw [if_pos this]
    simp [newRowH, Heap.push, hn]
  · have : ¬ (h.nx ≤ b ∧ b < (newRowH h k es cs).nx) := by
      have e1 : (newRowH h k es cs).nx = h.nx + 1 := rfl
      omega
    rw [if_neg this]
    simp only [newRowH, Heap.push, hn]
    exact upd_other _ _ hb

def Local (call : Value → Phi) (P : Program) (e : Env) (h : Heap) (o : Oper) (r : Rs) (h' : Heap) : Prop :=
  (∀ b, b < h.nx → h'.obj b = h.obj b) ∧ h.nx ≤ h'.nx ∧ ∀ g : Heap, g.nx = h.nx → ∃ g', evOp call P e g o = some (r, g') ∧ g'.nx = h'.nx ∧ ∀ b, g'.obj b = if h.nx ≤ b ∧ b < h'.nx then h'.obj b else g.obj b

theorem Local.same {call : Value → Phi} {P : Program} {e : Env} {h : Heap} {o : Oper} {r : Rs} (hg : ∀ g : Heap, evOp call P e g o = some (r, g)) : Local call P e h o r h :=
  ⟨fun _ _ => rfl, Nat.le_refl _, fun g hn => ⟨g, hg g, hn, fun b => by rw [if_neg (by omega)]⟩⟩

theorem Local.new {call : Value → Phi} {P : Program} {e : Env} {h : Heap} {o : Oper} {r : Rs} {k : Kind} {es : Nat} {cs : List Value} (hg : ∀ g : Heap, g.nx = h.nx → evOp call P e g o = some (r, newRowH g k es cs)) : Local call P e h o r (newRowH h k es cs) :=
  ⟨(push_local rfl k es cs).1, Nat.le_succ _, fun g hn => ⟨_, hg g hn, (push_local hn k es cs).2.1, (push_local hn k es cs).2.2⟩⟩

theorem pure_same {call : Value → Phi} {P : Program} {calm : FuncId → Bool} (hcalm : CalmOk call calm) {e : Env} {h : Heap} {o : Oper} (hc : clsOf calm o.op = .pure) : ∀ g : Heap, evOp call P e g o = (evOp call P e h o).map fun r => (r.1, g) := by
  have pure1 : (∀ g : Heap, evOp call P e g o = (evOp call P e h o).map fun r => (r.1, g)) → ∀ g : Heap, evOp call P e g o = (evOp call P e h o).map fun r => (r.1, g) := fun hF => hF
  unfold clsOf at hc
  split at hc
  · simp at hc
  · simp at hc
  · simp at hc
  · simp at hc
  · simp at hc
  · simp at hc
  · exact pure1 fun g => by simp [evOp, evPlain, *]
  · exact pure1 fun g => by simp [evOp, evPlain, *]
  · rename_i c a b hop
    exact pure1 fun g => by simp only [evOp, evPlain, hop]; cases ev e c <;> rfl
  · exact pure1 fun g => by simp [evOp, evPlain, *, Option.map_map, Function.comp]; rfl
  · exact pure1 fun g => by simp [evOp, evPlain, *, Option.map_map, Function.comp]; rfl
  · exact pure1 fun g => by simp [evOp, evPlain, *, Option.map_map, Function.comp]; rfl
  · exact pure1 fun g => by simp [evOp, evPlain, *, Option.map_map, Function.comp]; rfl
  · exact pure1 fun g => by simp [evOp, evPlain, *, Option.map_map, Function.comp]; rfl
  · rename_i t x hop
    exact pure1 fun g => by
      simp only [evOp, evPlain, hop]
      cases P.underlying t with
      | none => rfl
      | some d => cases d <;> rfl
  · rename_i fn first cap hop
    exact pure1 fun g => by simp only [evOp, evPlain, hop]; cases fn <;> rfl
  · exact pure1 fun g => by simp [evOp, evPlain, *, Option.map_map, Function.comp]; rfl
  · exact pure1 fun g => by simp [evOp, evPlain, *, Option.map_map, Function.comp]; rfl
  · exact pure1 fun g => by simp [evOp, evPlain, *, Option.map_map, Function.comp]; rfl
  · exact pure1 fun g => by simp [evOp, evPlain, *, Option.map_map, Function.comp]; rfl
  · exact pure1 fun g => by simp [evOp, evPlain, *, Option.map_map, Function.comp]; rfl
  · simp at hc
  · rename_i args ts hop
    exact pure1 fun g => by
      simp only [evOp, evPlain, hop, evBuiltin]
      rcases ts.toList with _ | ⟨t, _ | ⟨t2, tl⟩⟩ <;> rcases (args.toList.map (ev e)) with _ | ⟨x, _ | ⟨x2, xl⟩⟩ <;> first | rfl | (simp [Option.map_map, Function.comp]; rfl)
  · rename_i args ts hop
    exact pure1 fun g => by
      simp only [evOp, evPlain, hop, evBuiltin]
      simp [Option.map_map, Function.comp]; rfl
  · rename_i args ts hop
    exact pure1 fun g => by
      simp only [evOp, evPlain, hop, evBuiltin]
      simp [Option.map_map, Function.comp]; rfl
  · rename_i f args ts hop
    by_cases hcm : calm f = true
    · intro g
      simp only [evOp, hop]
      exact hcalm f #[] #[] _ h g hcm
    · simp [hcm] at hc
  · simp at hc

theorem local_of_cls {call : Value → Phi} {P : Program} {calm : FuncId → Bool} (hcalm : CalmOk call calm) {e : Env} {h h' : Heap} {o : Oper} {r : Rs} (hc : clsOf calm o.op = .pure ∨ clsOf calm o.op = .alloc) (he : evOp call P e h o = some (r, h')) : Local call P e h o r h' := by
  rcases hc with hc | hc
  · have hF := pure_same (call := call) (P := P) hcalm (e := e) (h := h) hc
    have h0 := hF h
    rw [he] at h0
    simp only [Option.map_some, Option.some.injEq, Prod.mk.injEq, true_and] at h0
    subst h0
    exact Local.same fun g => by rw [hF g, he]; rfl
  unfold clsOf at hc
  split at hc
  · simp at hc
  · simp at hc
  · -- alloc
    rename_i t hop
    have hE : ∀ g, evOp call P e g o = (evAlloc P t g).map fun r => (.ok r.1, r.2) := fun g => by simp [evOp, evPlain, hop]
    rw [hE] at he
    obtain ⟨⟨v, h2⟩, hv, hq⟩ := Option.map_eq_some_iff.1 he
    simp only [Prod.mk.injEq] at hq
    obtain ⟨rfl, rfl⟩ := hq
    unfold evAlloc at hv
    split at hv
    case h_2 => simp at hv
    case h_1 info hi =>
    split at hv
    case h_2 => simp at hv
    case h_1 z hz =>
    simp only [Option.some.injEq, Prod.mk.injEq] at hv
    obtain ⟨rfl, rfl⟩ := hv
    exact Local.new fun g hn => by rw [hE, evAlloc, hi]; simp [hz, hn]
  · rename_i t x hop
    have hE : ∀ g, evOp call P e g o = (evBox (ev e x) g).map fun r => (.ok r.1, r.2) := fun g => by simp [evOp, evPlain, hop]
    rw [hE] at he
    obtain ⟨⟨v, h2⟩, hv, hq⟩ := Option.map_eq_some_iff.1 he
    simp only [Prod.mk.injEq] at hq
    obtain ⟨rfl, rfl⟩ := hq
    unfold evBox at hv
    split at hv
    case isFalse => simp at hv
    case isTrue hone =>
    simp only [Option.some.injEq, Prod.mk.injEq] at hv
    obtain ⟨rfl, rfl⟩ := hv
    exact Local.new fun g hn => by rw [hE, evBox, if_pos hone]; simp [hn]
  · rename_i t n parts hop
    have hE : ∀ g, evOp call P e g o = (evBuildSlice P t n (parts.toList.map fun p => (p.1, ev e p.2)) g).map fun r => (.ok r.1, r.2) := fun g => by simp [evOp, evPlain, hop]
    rw [hE] at he
    obtain ⟨⟨v, h2⟩, hv, hq⟩ := Option.map_eq_some_iff.1 he
    simp only [Prod.mk.injEq] at hq
    obtain ⟨rfl, rfl⟩ := hq
    unfold evBuildSlice at hv
    split at hv
    case h_2 => simp at hv
    case h_1 elem hd =>
    split at hv
    case h_2 => simp at hv
    case h_1 info hi =>
    split at hv
    case h_2 => simp at hv
    case h_1 z hz =>
    split at hv
    · rename_i hn0
      split at hv
      case isFalse => simp at hv
      case isTrue hp =>
      simp only [Option.some.injEq, Prod.mk.injEq] at hv
      obtain ⟨rfl, rfl⟩ := hv
      exact Local.same fun g => by rw [hE, evBuildSlice, hd]; simp only [hi, hz, hn0, hp, if_true]; rfl
    · rename_i hn0
      split at hv
      case isFalse => simp at hv
      case isTrue hp =>
      split at hv
      case h_2 => simp at hv
      case h_1 l hl =>
      simp only [Option.some.injEq, Prod.mk.injEq] at hv
      obtain ⟨rfl, rfl⟩ := hv
      exact Local.new fun g hn => by rw [hE, evBuildSlice, hd]; simp only [hi, hz, hn0, hp, if_true, if_false, hl, hn]; simp
  · rename_i t l c hop
    have hE : ∀ g, evOp call P e g o = (evMakeSlice P t (ev e l) (ev e c) g).map fun r => (.ok r.1, r.2) := fun g => by simp [evOp, evPlain, hop]
    rw [hE] at he
    obtain ⟨⟨v, h2⟩, hv, hq⟩ := Option.map_eq_some_iff.1 he
    simp only [Prod.mk.injEq] at hq
    obtain ⟨rfl, rfl⟩ := hq
    unfold evMakeSlice at hv
    split at hv
    case h_2 => simp at hv
    case h_1 elem l c hd hl hc =>
    split at hv
    case h_2 => simp at hv
    case h_1 info hi =>
    split at hv
    case h_2 => simp at hv
    case h_1 z hz =>
    split at hv
    case isFalse => simp at hv
    case isTrue hp =>
    split at hv
    · rename_i hn0
      simp only [Option.some.injEq, Prod.mk.injEq] at hv
      obtain ⟨rfl, rfl⟩ := hv
      exact Local.same fun g => by rw [hE, evMakeSlice, hd, hl, hc]; simp only [hi, hz, hn0, if_true]; rw [hn0] at hp; simp only [hp, if_true]; rfl
    · rename_i hn0
      simp only [Option.some.injEq, Prod.mk.injEq] at hv
      obtain ⟨rfl, rfl⟩ := hv
      exact Local.new fun g hn => by rw [hE, evMakeSlice, hd, hl, hc]; simp only [hi, hz, hn0, hp, if_true, if_false, hn]; simp
  all_goals first | (simp at hc; done) | (split at hc <;> simp at hc)

theorem pure_of_cls {call : Value → Phi} {P : Program} {calm : FuncId → Bool} (hcalm : CalmOk call calm) {e : Env} {h h' : Heap} {o : Oper} {r : Rs} (hc : clsOf calm o.op = .pure) (he : evOp call P e h o = some (r, h')) : h' = h := by
  have h0 := pure_same (call := call) (P := P) hcalm (e := e) (h := h) hc h
  rw [he] at h0
  simp only [Option.map_some, Option.some.injEq, Prod.mk.injEq, true_and] at h0
  exact h0

theorem read_of_cls {call : Value → Phi} {P : Program} {calm : FuncId → Bool}
    {e : Env} {h h' : Heap} {o : Oper} {r : Rs} (hc : clsOf calm o.op = .read) (he : evOp call P e h o = some (r, h')) : ∀ b, b < h.nx → h'.obj b = h.obj b := by
  unfold clsOf at hc
  split at hc
  · rename_i t x hop
    simp only [evOp, evPlain, hop, Option.map_map] at he
    obtain ⟨v, hv, hq⟩ := Option.map_eq_some_iff.1 he
    simp only [Function.comp, Prod.mk.injEq] at hq
    obtain ⟨_, rfl⟩ := hq
    exact fun _ _ => rfl
  · rename_i t x lo hi mx hop
    simp only [evOp, evPlain, hop, Option.map_map] at he
    obtain ⟨v, hv, hq⟩ := Option.map_eq_some_iff.1 he
    simp only [Function.comp, Prod.mk.injEq] at hq
    obtain ⟨_, rfl⟩ := hq
    exact fun _ _ => rfl
  all_goals first | (simp at hc; done) | skip
  · rename_i s d x hop
    simp only [evOp, evPlain, hop] at he
    obtain ⟨⟨v, h2⟩, hv, hq⟩ := Option.map_eq_some_iff.1 he
    simp only [Prod.mk.injEq] at hq
    obtain ⟨_, rfl⟩ := hq
    unfold evConvert at hv
    split at hv
    · simp only [Option.some.injEq, Prod.mk.injEq] at hv; obtain ⟨_, rfl⟩ := hv; exact fun _ _ => rfl
    · simp only [Option.some.injEq, Prod.mk.injEq] at hv; obtain ⟨_, rfl⟩ := hv; exact fun _ _ => rfl
    · split at hv
      · split at hv
        · simp only [Option.some.injEq, Prod.mk.injEq] at hv; obtain ⟨_, rfl⟩ := hv; exact fun _ _ => rfl
        · split at hv
          · simp only [Option.some.injEq, Prod.mk.injEq] at hv; obtain ⟨_, rfl⟩ := hv
            exact (push_local rfl _ _ _).1
          · simp at hv
      · simp at hv
    · split at hv
      · split at hv
        · obtain ⟨l, hl, hq⟩ := Option.map_eq_some_iff.1 hv
          simp only [Prod.mk.injEq] at hq; obtain ⟨_, rfl⟩ := hq; exact fun _ _ => rfl
        · simp at hv
      · simp at hv
    · split at hv
      · split at hv
        · simp only [Option.some.injEq, Prod.mk.injEq] at hv; obtain ⟨_, rfl⟩ := hv; exact fun _ _ => rfl
        · simp at hv
      · simp at hv
    · simp at hv
  · split at hc <;> simp at hc

theorem evLoad_congr {P : Program} {t : TypeId} {a : Value} {g h : Heap} (hq : ∀ q ∈ rowsOfV a, g.obj q = h.obj q) : evLoad P t a g = evLoad P t a h := by
  unfold evLoad
  split
  · rename_i b i
    rw [hq b (by simp [rowsOfV])]
  · rfl
theorem evSlice_congr {P : Program} {t : TypeId} {x : Value} {lo hi mx : Option Value} {g h : Heap} (hq : ∀ q ∈ rowsOfV x, g.obj q = h.obj q) : evSlice P t x lo hi mx g = evSlice P t x lo hi mx h := by
  unfold evSlice
  split
  · rfl
  · rfl
  · rfl
  · rfl
  · rename_i elem b i n c hd
    rw [hq b (by simp [rowsOfV])]
  · rfl
  · rfl
  · rfl
theorem evElems_congr {size n : Nat} {x : Value} {g h : Heap} (hq : ∀ q ∈ rowsOfV x, g.obj q = h.obj q) : evElems size n x g = evElems size n x h := by
  unfold evElems
  split
  · rfl
  · rfl
  · rw [hq _ (by simp [rowsOfV])]
  · rfl
  · rfl
/-- What a read hangs on. -/
theorem read_local {call : Value → Phi} {P : Program} {calm : FuncId → Bool} {e : Env} {h h' : Heap} {o : Oper} {r : Rs} (hc : clsOf calm o.op = .read) (he : evOp call P e h o = some (r, h')) (hnx : h'.nx = h.nx)
    {g : Heap} (hq : ∀ q ∈ readRows e o.op, g.obj q = h.obj q) : evOp call P e g o = some (r, g) := by
  unfold clsOf at hc
  split at hc
  · rename_i t x hop
    simp only [readRows, hop] at hq
    simp only [evOp, evPlain, hop, evLoad_congr hq] at he ⊢
    obtain ⟨⟨v, h2⟩, hv, hr⟩ := Option.map_eq_some_iff.1 he
    obtain ⟨v2, hv2, hr2⟩ := Option.map_eq_some_iff.1 hv
    simp only [Prod.mk.injEq] at hr hr2
    obtain ⟨rfl, rfl⟩ := hr
    obtain ⟨rfl, rfl⟩ := hr2
    simp [hv2]
  · rename_i t x lo hi mx hop
    simp only [readRows, hop] at hq
    simp only [evOp, evPlain, hop, evSlice_congr hq] at he ⊢
    obtain ⟨⟨v, h2⟩, hv, hr⟩ := Option.map_eq_some_iff.1 he
    obtain ⟨v2, hv2, hr2⟩ := Option.map_eq_some_iff.1 hv
    simp only [Prod.mk.injEq] at hr hr2
    obtain ⟨rfl, rfl⟩ := hr
    obtain ⟨rfl, rfl⟩ := hr2
    simp [hv2]
  all_goals first | (simp at hc; done) | skip
  · rename_i s d x hop
    simp only [readRows, hop] at hq
    simp only [evOp, evPlain, hop] at he ⊢
    obtain ⟨⟨v, h2⟩, hv, hr⟩ := Option.map_eq_some_iff.1 he
    simp only [Prod.mk.injEq] at hr
    obtain ⟨rfl, rfl⟩ := hr
    suffices hs : evConvert P s d (ev e x) g = some (v, g) by rw [hs]; rfl
    unfold evConvert at hv ⊢
    split at hv
    · rename_i h3 h4 h5
      cases hv
      rfl
    · cases hv
      rfl
    · split at hv
      · rename_i he2
        split at hv
        · rename_i h0
          cases hv
          simp only [he2, h0, if_true]
        · split at hv
          · cases hv
            simp [newRowH, Heap.push] at hnx
          · cases hv
      · cases hv
    · rename_i h5 h6 h7
      rw [h7] at hq
      split at hv
      · rename_i he2
        split at hv
        · rename_i xs hxs
          obtain ⟨l, hl, hr3⟩ := Option.map_eq_some_iff.1 hv
          cases hr3
          simp only [he2, evElems_congr hq, hxs, hl, Option.map_some]
        · cases hv
      · cases hv
    · rename_i h8 h9 h10
      rw [h10] at hq
      split at hv
      · rename_i hsd
        split at hv
        · rename_i he2 ho2
          cases hv
          have hq2 := hq _ (List.Mem.head _)
          rw [if_pos hsd, he2, hq2, ho2]
        · cases hv
      · cases hv
    · cases hv
  · split at hc <;> simp at hc
end Go.Proofs.Ytfehhihllenjiaa
