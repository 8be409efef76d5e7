/- Equality and conversions: sound. -/
import Derived.Test.YtfehhihllenjiaaH
set_option linter.all false
namespace Go.Proofs.Ytfehhihllenjiaa

def tagV : Value → Nat
  | .bool _ => 0
  | .pointer _ => 1
  | .slice _ _ _ => 2
  | .map _ => 3
  | .func _ _ _ | .nilFunc => 4
  | .iface _ _ | .nilIface => 5
  | .agg _ => 6
  | .int _ _ => 7
  | .string _ => 8
  | _ => 9
theorem VR.tag {μ : Mu} {v v' : Value} (h : VR μ v v') : tagV v' = tagV v := by cases h <;> rfl
theorem evEq_tag {P : Program} {d : Nat} {t : TypeId} {x y : Value} {r : Bool} (h : evEq P d t x y = some r) : tagV x = tagV y ∧ tagV x ≤ 8 := by
  cases d with
  | zero => simp [evEq] at h
  | succ d =>
    unfold evEq at h
    split at h <;> first | (simp at h; done) | exact ⟨rfl, by simp [tagV]⟩
theorem binOp_eql {x y : Value} (t : TypeId) (h : tagV x = tagV y) (h6 : tagV x ≤ 6) : binOp .eql t x y = (do pure (.bool (← Op.equal t x y))) := by
  cases x <;> first
    | (simp [tagV] at h6; done)
    | (cases y <;> first | rfl | (simp [tagV] at h; done))
theorem binOp_neq {x y : Value} (t : TypeId) (h : tagV x = tagV y) (h6 : tagV x ≤ 6) : binOp .neq t x y = (do pure (.bool (!(← Op.equal t x y)))) := by
  cases x <;> first
    | (simp [tagV] at h6; done)
    | (cases y <;> first | rfl | (simp [tagV] at h; done))

theorem eqGuard_run {P : Program} {op : BinOp} {t : TypeId} {X Y : Operand} {x y x' y' : Value} {μ : Mu} {w : World} (hx : VR μ x x') (hy : VR μ y y')
    (hok : eqOk P t (Region.isConst X || Region.isConst Y) x y = true) : (eqGuard op t X Y x' y').run P w = .ok () w := by
  unfold eqGuard
  by_cases hop : (match op with | .eql | .neq => true | _ => false) = true
  · cases hx with
    | nilIface =>
      cases hy with
      | nilIface =>
        have hl : (Region.isConst X || Region.isConst Y) = true := by simpa [eqOk] using hok
        cases op <;> first | rfl | skip
        all_goals (cases X <;> cases Y <;> first | rfl | (simp [Region.isConst] at hl))
      | _ => cases op <;> rfl
    | agg hc =>
      cases hy with
      | agg hc' =>
        have hg : P.eqGuardType P.depth t = false := by simpa [eqOk] using hok
        cases op <;> first | rfl | (simp [hg])
      | _ => cases op <;> rfl
    | _ => cases op <;> (cases hy <;> rfl)
  · cases op <;> first | rfl | (simp at hop)

theorem evBin_sound {P : Program} {op : BinOp} {t : TypeId} {X Y : Operand} {x y x' y' r : Value} {μ : Mu} {w : World} (h : evBin P op t (Region.isConst X || Region.isConst Y) x y = some r) (hx : VR μ x x') (hy : VR μ y y') :
    ((do eqGuard op t X Y x' y'; binOp op t x' y') : Sem Value).run P w = .ok r w ∧ VR μ r r := by
  unfold evBin at h
  split at h
  · rename_i k a k' b
    cases hx; cases hy
    have hg : (eqGuard op t X Y (.int k a) (.int k' b)).run P w = .ok () w := eqGuard_plain op t X Y _ _ w (.inl ⟨_, _, _, _, rfl, rfl⟩)
    simp only [Sem.run_bind, hg, Result.andThen_ok]
    split at h
    · exact ⟨evShift_run h t w, by
        unfold evShift at h
        split at h
        · simp at h
        · simp only [Option.some.injEq] at h; subst h; exact .int _ _⟩
    · exact ⟨evShift_run h t w, by
        unfold evShift at h
        split at h
        · simp at h
        · simp only [Option.some.injEq] at h; subst h; exact .int _ _⟩
    · rename_i op' h1 h2
      split at h
      case isFalse => simp at h
      case isTrue hk =>
      subst hk
      refine ⟨evIntOp_run h t w (fun e => h1 e) (fun e => h2 e), ?_⟩
      cases op <;> simp only [evIntOp, Option.some.injEq, reduceCtorEq] at h <;> first
        | (subst h; first | exact .int _ _ | exact .bool _)
        | (split at h
           · simp at h
           · simp only [Option.some.injEq] at h; subst h; exact .int _ _)
  · rename_i a b
    cases hx; cases hy
    have hg : (eqGuard op t X Y (.string a) (.string b)).run P w = .ok () w := eqGuard_plain op t X Y _ _ w (.inr ⟨_, _, rfl, rfl⟩)
    simp only [Sem.run_bind, hg, Result.andThen_ok]
    refine ⟨evStrOp_run h t w, ?_⟩
    cases op <;> simp only [evStrOp, Option.some.injEq, reduceCtorEq] at h <;> first
      | (subst h; exact .bool _)
      | (split at h
         · simp only [Option.some.injEq] at h; subst h; exact .string _
         · simp at h)
  · rename_i hni hns
    have main : ∀ r, eqOk P t (Region.isConst X || Region.isConst Y) x y = true → evEq P Op.maxDepth t x y = some r → (eqGuard op t X Y x' y').run P w = .ok () w ∧ (Op.equal t x' y').run P w = .ok r w ∧ tagV x' = tagV y' ∧ tagV x' ≤ 6 := by
      intro r hok he
      have ht := evEq_tag he
      refine ⟨eqGuard_run hx hy hok, evEq_sound _ _ _ _ _ _ _ he hx hy, by rw [hx.tag, hy.tag]; exact ht.1, ?_⟩
      rw [hx.tag]
      have h7 : tagV x ≠ 7 := fun e => by
        have e2 := ht.1.symm.trans e
        cases x <;> first | (simp [tagV] at e; done) | skip
        cases y <;> first | (simp [tagV] at e2; done) | skip
        exact hni _ _ _ _ rfl rfl
      have h8 : tagV x ≠ 8 := fun e => by
        have e2 := ht.1.symm.trans e
        cases x <;> first | (simp [tagV] at e; done) | skip
        cases y <;> first | (simp [tagV] at e2; done) | skip
        exact hns _ _ rfl rfl
      omega
    split at h
    · split at h
      case isFalse => simp at h
      case isTrue hok =>
      obtain ⟨b, hb, rfl⟩ := Option.map_eq_some_iff.1 h
      obtain ⟨m1, m2, m3, m4⟩ := main b hok hb
      exact ⟨by simp only [Sem.run_bind, m1, Result.andThen_ok, binOp_eql t m3 m4, m2, Sem.run_pure], .bool _⟩
    · split at h
      case isFalse => simp at h
      case isTrue hok =>
      obtain ⟨b, hb, rfl⟩ := Option.map_eq_some_iff.1 h
      obtain ⟨m1, m2, m3, m4⟩ := main b hok hb
      exact ⟨by simp only [Sem.run_bind, m1, Result.andThen_ok, binOp_neq t m3 m4, m2, Sem.run_pure], .bool _⟩
    · simp at h

/-! unary -/
def evUn (op : UnOp) (x : Value) : Option Value :=
  match op, x with
  | .neg, .int k n => some (.int k (k.wrap (0 - n)))
  | .xor, .int k n => evIntOp .xor k (if k.signed then -1 else k.max) n
  | .not, .bool b => some (.bool !b)
  | _, _ => none
theorem evUn_sound {P : Program} {op : UnOp} {x x' r : Value} {μ : Mu} {w : World} (h : evUn op x = some r) (hx : VR μ x x') : (Op.unary op x').run P w = .ok r w ∧ VR μ r r := by
  unfold evUn at h
  split at h
  · cases hx; simp only [Option.some.injEq] at h; subst h; exact ⟨rfl, .int _ _⟩
  · cases hx; simp only [evIntOp, Option.some.injEq] at h; subst h; exact ⟨rfl, .int _ _⟩
  · cases hx; simp only [Option.some.injEq] at h; subst h; exact ⟨rfl, .bool _⟩
  · simp at h

/-! conversions -/
def bytesOf : List Value → Option (List UInt8)
  | [] => some []
  | .int .u8 n :: l => (bytesOf l).map fun r => UInt8.ofNat n.toNat :: r
  | _ => none
def evConvert (P : Program) (src dst : TypeId) (x : Value) (h : Heap) : Option (Value × Heap) :=
  match P.underlying src, P.underlying dst, x with
  | some _, some (.int k), .int _ n => some (.int k (k.wrap n), h)
  | some _, some .string, .string s => some (.string s, h)
  | some _, some (.slice e), .string s => match P.underlying e with
    | some (.int .u8) =>
      if s.size = 0 then some (anyS, h)
      else if s.size ≤ 2 ^ 40 then some (.slice (some ⟨h.nx, 0, none⟩) s.size s.size, newRowH h .grow 1 (s.data.toList.map fun b => .int .u8 b.toNat)) else none
    | _ => none
  | some (.slice e), some .string, .slice a n c => match P.underlying e with
    | some (.int .u8) => match evElems 1 n (.slice a n c) h with
      | some xs => (bytesOf xs).map fun l => (.string ⟨l.toArray⟩, h)
      | none => none
    | _ => none
  | _, _, _ => none


theorem run_bytes {P : Program} {μ : Mu} {w : World} {b : Value → ByteArray → Sem (ForInStep ByteArray)} (hb : ∀ n s, b (.int .u8 n) s = pure (.yield (s.push (UInt8.ofNat n.toNat)))) :
    ∀ (xs xs' : List Value) (l : List UInt8) (s : ByteArray), bytesOf xs = some l → VRL μ xs xs' → (forIn xs' s b : Sem ByteArray).run P w = .ok ⟨s.data ++ l.toArray⟩ w
  | _, _, l, s, h, .nil => by simp [bytesOf] at h; subst h; simp
  | x :: xs, x' :: xs', l, s, h, .cons hv t => by
    unfold bytesOf at h
    split at h
    · rename_i heq; cases heq
    · rename_i n l0 heq
      cases heq
      cases hv
      obtain ⟨r, hr, rfl⟩ := Option.map_eq_some_iff.1 h
      simp only [List.forIn_cons, hb, Sem.run_bind, Sem.run_pure, Result.andThen_ok]
      rw [run_bytes hb xs xs' r _ hr t]
      simp [ByteArray.push]
    · simp at h

theorem freeze_alloc (w : World) (A : Array Value) (e : TypeId) (n : Nat) : (w.alloc (.cells A e)).freeze ⟨w.heap.size, n, none⟩ 1 = w.alloc (.cells A e (n, n + 1)) := by
  unfold World.freeze World.alloc
  simp only [Nat.one_ne_zero, if_false]
  congr 1
  apply Array.ext_getElem?
  intro i
  rw [Array.getElem?_modify]
  by_cases hi : i = w.heap.size
  · subst hi; simp
  · rw [if_neg (Ne.symm hi), Array.getElem?_push, Array.getElem?_push, if_neg hi, if_neg hi]

theorem run_string_bytes {P : Program} {src dst e : TypeId} {sd : TypeDesc} {s : ByteArray} {w : World} (hs : P.underlying src = some sd) (hd : P.underlying dst = some (.slice e)) (hu : P.underlying e = some (.int .u8)) :
    ∃ cap, s.size ≤ cap ∧ ∃ A : Array Value, A.size = cap ∧ A.toList.take s.size = s.data.toList.map (fun b => Value.int .u8 b.toNat) ∧
      (convert src dst (.string s)).run P w = .ok (.slice (some ⟨w.heap.size, 0, none⟩) s.size cap) (w.drew.alloc (.cells A e (cap, cap + 1))) := by
  have hcap : s.size ≤ s.size + (w.tape w.drawn (.appendCap s.size 0 e)) % (2 ^ 63 - s.size) := by omega
  generalize hC : s.size + (w.tape w.drawn (.appendCap s.size 0 e)) % (2 ^ 63 - s.size) = cap at hcap
  have hss : s.data.size = s.size := rfl
  refine ⟨cap, hcap, (s.data.map fun b => Value.int .u8 b.toNat) ++ Array.replicate (cap - s.size) (.int .u8 0), by simp [hss]; omega, ?_, ?_⟩
  · simp only [Array.toList_append, Array.toList_map]
    rw [List.take_left']
    simp [hss]
  · generalize hAe : ((s.data.map fun b => Value.int .u8 b.toNat) ++ Array.replicate (cap - s.size) (.int .u8 0)) = A
    have hA : A.size = cap := by rw [← hAe]; simp [hss]; omega
    refine (Sem.run_bind P w (underlying src) _).trans ?_
    rw [run_underlying hs, Result.andThen_ok]
    refine (Sem.run_bind P w (underlying dst) _).trans ?_
    rw [run_underlying hd, Result.andThen_ok]
    refine (Sem.run_bind P w (underlying e) _).trans ?_
    rw [run_underlying hu, Result.andThen_ok]
    simp [Conv.stringToBytes, Question.forced, Question.cut, newRow, hC, markStringish]
    rw [hAe]
    have hsh : (w.drew.alloc (.cells A e)).shape? w.heap.size = some (e, cap) := by
      have : (w.drew.alloc (.cells A e)).heap[w.heap.size]? = some (.cells A e) := alloc_get w.drew _
      unfold World.shape?
      rw [this]
      simp [hA]
    rw [hsh]
    simp only [run_freeze, Result.andThen_ok]
    rw [show (⟨w.heap.size, cap, none⟩ : Addr) = ⟨w.drew.heap.size, cap, none⟩ from rfl, freeze_alloc]

theorem evConvert_sound {P : Program} {src dst : TypeId} {x x' r : Value} {h h' : Heap} {μ : Mu} {w : World} (he : evConvert P src dst x h = some (r, h')) (hr : Rel μ h w) (hf : Fresh μ h) (hx : VR μ x x') :
    Sound P (convert src dst x') μ h w r h' := by
  unfold evConvert at he
  split at he
  · rename_i sd k k0 n hs hd
    cases hx
    simp only [Option.some.injEq, Prod.mk.injEq] at he
    obtain ⟨rfl, rfl⟩ := he
    refine ⟨.int k (k.wrap n), w, μ, ?_, .refl hr hf, .int _ _⟩
    refine (Sem.run_bind P w (underlying src) _).trans ?_
    rw [run_underlying hs, Result.andThen_ok]
    refine (Sem.run_bind P w (underlying dst) _).trans ?_
    rw [run_underlying hd, Result.andThen_ok]
    rfl
  · rename_i sd s hs hd
    cases hx
    simp only [Option.some.injEq, Prod.mk.injEq] at he
    obtain ⟨rfl, rfl⟩ := he
    refine ⟨.string s, w, μ, ?_, .refl hr hf, .string _⟩
    refine (Sem.run_bind P w (underlying src) _).trans ?_
    rw [run_underlying hs, Result.andThen_ok]
    refine (Sem.run_bind P w (underlying dst) _).trans ?_
    rw [run_underlying hd, Result.andThen_ok]
    rfl
  · rename_i sd e s hs hd
    cases hx
    split at he
    case h_2 => simp at he
    case h_1 hu =>
    obtain ⟨cap, hcap, A, hA, hAt, hrun⟩ := run_string_bytes (w := w) hs hd hu
    split at he
    · rename_i hs0
      simp only [Option.some.injEq, Prod.mk.injEq] at he
      obtain ⟨rfl, rfl⟩ := he
      have sd := Step.drew hr hf
      have sa := alloc_none sd.rel hf (.cells A e (cap, cap + 1))
      rw [hs0] at hrun
      exact ⟨_, _, μ, hrun, sd.trans hf sa, .emptyAny _ _⟩
    · rename_i hs0
      split at he
      case isFalse => simp at he
      case isTrue hs40 =>
      simp only [Option.some.injEq, Prod.mk.injEq] at he
      obtain ⟨rfl, rfl⟩ := he
      have sd := Step.drew hr hf
      have hl : (s.data.toList.map fun b => Value.int .u8 b.toNat).length = s.size := by simp
      have hp := push_row sd.rel hf .grow 1 (s.data.toList.map fun b => .int .u8 b.toNat) A e (cap, cap + 1) (by
        rw [hl, hAt]
        have := VRL.ints (μ := μ) (s.data.toList.map fun b => (b.toNat : Int))
        rw [List.map_map] at this
        exact this) (by omega)
      rw [hl, hA] at hp
      exact ⟨_, _, _, hrun, sd.trans hf hp, .slice (i := 0) (upd_same _ _ _) (.inr ⟨rfl, hcap, by simp, by simp⟩)⟩
  · rename_i e a n c hs hd
    split at he
    case h_2 => simp at he
    case h_1 hu =>
    split at he
    case h_2 => simp at he
    case h_1 xs hxs =>
    obtain ⟨l, hl, he⟩ := Option.map_eq_some_iff.1 he
    simp only [Prod.mk.injEq] at he
    obtain ⟨rfl, rfl⟩ := he
    obtain ⟨A, hA, hva⟩ := evElems_sound (P := P) hxs hr hx
    refine ⟨_, w, μ, ?_, .refl hr hf, .string _⟩
    have pre : ∀ x2, x' = x2 → (convert src dst x2).run P w = (Conv.bytesToString x2).run P w → (Conv.bytesToString x2).run P w = .ok (.string ⟨l.toArray⟩) w → (convert src dst x').run P w = .ok (.string ⟨l.toArray⟩) w := by
      rintro x2 rfl h1 h2; rw [h1, h2]
    have hcv : ∀ a n c, (convert src dst (.slice a n c)).run P w = (Conv.bytesToString (.slice a n c)).run P w := by
      intro a n c
      refine (Sem.run_bind P w (underlying src) _).trans ?_
      rw [run_underlying hs, Result.andThen_ok]
      refine (Sem.run_bind P w (underlying dst) _).trans ?_
      rw [run_underlying hd, Result.andThen_ok]
      refine (Sem.run_bind P w (underlying e) _).trans ?_
      rw [run_underlying hu, Result.andThen_ok]
    have hsome : ∀ (a2 : Addr) (c2 : Nat), (∀ w' : World, w'.heap = w.heap → (Builtin.firstCells 1 n (.slice (some a2) n c2)).run P w' = .ok A w') → (Conv.bytesToString (.slice (some a2) n c2)).run P w = .ok (.string ⟨l.toArray⟩) w := by
      intro a2 c2 hfc
      have hlc : (loadCells a2 n).run P w = .ok A w := by
        have := hfc w rfl
        simpa [Builtin.firstCells] using this
      unfold Conv.bytesToString
      simp [hlc]
      rw [← Array.forIn_toList, run_bytes (P := P) (μ := μ) ?_ xs A.toList l ByteArray.empty hl hva]
      · simp
      · intro _ _; rfl
    cases hx with
    | nilSlice =>
      refine pre _ rfl (hcv _ _ _) ?_
      simp only [evElems, Option.some.injEq] at hxs
      subst hxs
      simp only [bytesOf, Option.some.injEq] at hl
      subst hl
      rfl
    | slice hb hc => exact pre _ rfl (hcv _ _ _) (hsome _ _ hA)
    | empty0 a' => exact pre _ rfl (hcv _ _ _) (hsome _ _ hA)
    | emptyAny a' C => exact pre _ rfl (hcv _ _ _) (hsome _ _ hA)
  · simp at he
end Go.Proofs.Ytfehhihllenjiaa
