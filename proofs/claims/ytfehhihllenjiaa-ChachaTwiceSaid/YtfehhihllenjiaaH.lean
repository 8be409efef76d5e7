/- Operations on numbers, strings, equality, conversions. -/
import Derived.Test.YtfehhihllenjiaaG
set_option linter.all false
namespace Go.Proofs.Ytfehhihllenjiaa

def evIntOp (op : BinOp) (k : IntKind) (x y : Int) : Option Value :=
  match op with
  | .add => some (.int k (k.wrap (x + y)))
  | .sub => some (.int k (k.wrap (x - y)))
  | .mul => some (.int k (k.wrap (x * y)))
  | .quo => if y = 0 then none else some (.int k (k.wrap (x.tdiv y)))
  | .rem => if y = 0 then none else some (.int k (x.tmod y))
  | .and => some (.int k (k.wrap ((BitVec.ofInt k.bits x &&& BitVec.ofInt k.bits y).toNat)))
  | .or => some (.int k (k.wrap ((BitVec.ofInt k.bits x ||| BitVec.ofInt k.bits y).toNat)))
  | .xor => some (.int k (k.wrap ((BitVec.ofInt k.bits x ^^^ BitVec.ofInt k.bits y).toNat)))
  | .andNot => some (.int k (k.wrap ((BitVec.ofInt k.bits x &&& ~~~BitVec.ofInt k.bits y).toNat)))
  | .eql => some (.bool (x == y))
  | .neq => some (.bool (x != y))
  | .lss => some (.bool (decide (x < y)))
  | .leq => some (.bool (decide (x ≤ y)))
  | .gtr => some (.bool (decide (y < x)))
  | .geq => some (.bool (decide (y ≤ x)))
  | _ => none
def evShift (op : BinOp) (k : IntKind) (x y : Int) : Option Value :=
  if y < 0 then none else
  match op with
  | .shl => some (.int k (k.wrap (x * 2 ^ (min y.toNat k.bits))))
  | .shr => some (.int k (x.fdiv (2 ^ (min y.toNat k.bits))))
  | _ => none
def evStrOp (op : BinOp) (x y : ByteArray) : Option Value :=
  match op with
  | .add => if x.size + y.size ≤ 2 ^ 40 then some (.string (x ++ y)) else none
  | .eql => some (.bool (x.toList == y.toList))
  | .neq => some (.bool !(x.toList == y.toList))
  | _ => none

def andAll {α : Type} (g : α → Option Bool) : List α → Option Bool
  | [] => some true
  | a :: l => match g a with
    | some true => andAll g l
    | some false => some false
    | none => none
/-- Equality, as the model's own: plain values alone. -/
def evEq (P : Program) : Nat → TypeId → Value → Value → Option Bool
  | 0, _, _, _ => none
  | d + 1, t, x, y =>
    match P.underlying t, x, y with
    | some .bool, .bool a, .bool b => some (a == b)
    | some (.int _), .int k a, .int k' b => if k = k' then some (a == b) else none
    | some .string, .string a, .string b => some (a == b)
    | some (.pointer _), .pointer none, .pointer b => some b.isNone
    | some (.pointer _), .pointer (some _), .pointer none => some false
    | some (.interface _), .nilIface, .nilIface => some true
    | some (.interface _), .nilIface, .iface _ _ => some false
    | some (.interface _), .iface _ _, .nilIface => some false
    | some (.slice _), .slice none _ _, .slice b _ _ => some b.isNone
    | some (.slice _), .slice (some _) _ _, .slice none _ _ => some false
    | some (.map _ _), .map none, .map b => some b.isNone
    | some (.map _ _), .map (some _), .map none => some false
    | some (.func _ _ _), .nilFunc, .nilFunc => some true
    | some (.func _ _ _), .nilFunc, .func _ _ _ => some false
    | some (.func _ _ _), .func _ _ _, .nilFunc => some false
    | some (.struct fields), .agg xs, .agg ys =>
      if P.stoodInHeld t then none else
      andAll (fun f : Field => if f.name = "_" then some true else
        match evPart P f.type xs f.offset, evPart P f.type ys f.offset with
        | some a, some b => evEq P d f.type a b
        | _, _ => none) fields.toList
    | some (.array len elem), .agg xs, .agg ys =>
      match P.info? elem with
      | some info => andAll (fun i => match evPart P elem xs (i * info.size), evPart P elem ys (i * info.size) with
        | some a, some b => evEq P d elem a b
        | _, _ => none) (List.range' 0 len)
      | none => none
    | _, _, _ => none

theorem run_forIn_and {α : Type} {P : Program} {w : World} (g : α → Option Bool) (b : α → Sem (ForInStep (Option Bool × Unit))) (hb : ∀ a t, g a = some t → (b a).run P w = .ok (if t then .yield (none, ()) else .done (some false, ())) w) :
    ∀ (l : List α) (r : Bool), andAll g l = some r → (forIn l (none, ()) (fun a _ => b a) : Sem (Option Bool × Unit)).run P w = .ok (if r then (none, ()) else (some false, ())) w
  | [], r, h => by simp [andAll] at h; subst h; rfl
  | a :: l, r, h => by
    simp only [andAll] at h
    split at h
    · rename_i hg
      simp only [List.forIn_cons, Sem.run_bind, hb a _ hg, Result.andThen_ok, if_true]
      exact run_forIn_and g b hb l r h
    · rename_i hg
      simp only [Option.some.injEq] at h
      subst h
      simp [List.forIn_cons, hb a _ hg]
    · simp at h

theorem evEq_sound {P : Program} {μ : Mu} {w : World} : ∀ (d : Nat) (t : TypeId) (x y x' y' : Value) (r : Bool), evEq P d t x y = some r → VR μ x x' → VR μ y y' → (Op.equalIn d t x' y').run P w = .ok r w
  | 0, _, _, _, _, _, _, h, _, _ => by simp [evEq] at h
  | d + 1, t, x, y, x', y', r, h, hx, hy => by
    have ih := fun t x y x' y' r => evEq_sound (P := P) (μ := μ) (w := w) d t x y x' y' r
    unfold evEq at h
    split at h
    · rename_i a b hd; cases hx; cases hy; simp only [Option.some.injEq] at h; subst h; refine (Sem.run_bind P w (underlying t) _).trans ?_; rw [run_underlying hd]; rfl
    · rename_i k0 k a k' b hd
      cases hx; cases hy
      split at h
      · rename_i hk
        subst hk
        simp only [Option.some.injEq] at h; subst h; refine (Sem.run_bind P w (underlying t) _).trans ?_; rw [run_underlying hd]; simp
      · simp at h
    · rename_i a b hd; cases hx; cases hy; simp only [Option.some.injEq] at h; subst h; refine (Sem.run_bind P w (underlying t) _).trans ?_; rw [run_underlying hd]; rfl
    · rename_i e b hd; cases hx; simp only [Option.some.injEq] at h; subst h; cases hy <;> (refine (Sem.run_bind P w (underlying t) _).trans ?_; rw [run_underlying hd]; rfl)
    · rename_i e a hd; cases hy; simp only [Option.some.injEq] at h; subst h; cases hx; refine (Sem.run_bind P w (underlying t) _).trans ?_; rw [run_underlying hd]; rfl
    · rename_i ms hd; cases hx; cases hy; simp only [Option.some.injEq] at h; subst h; refine (Sem.run_bind P w (underlying t) _).trans ?_; rw [run_underlying hd]; rfl
    · rename_i ms _ _ hd; cases hx; cases hy; simp only [Option.some.injEq] at h; subst h; refine (Sem.run_bind P w (underlying t) _).trans ?_; rw [run_underlying hd]; rfl
    · rename_i ms _ _ hd; cases hx; cases hy; simp only [Option.some.injEq] at h; subst h; refine (Sem.run_bind P w (underlying t) _).trans ?_; rw [run_underlying hd]; rfl
    · rename_i e _ _ b _ _ hd; cases hx; simp only [Option.some.injEq] at h; subst h; cases hy <;> (refine (Sem.run_bind P w (underlying t) _).trans ?_; rw [run_underlying hd]; rfl)
    · rename_i e a _ _ _ _ hd; cases hy; simp only [Option.some.injEq] at h; subst h; cases hx <;> (refine (Sem.run_bind P w (underlying t) _).trans ?_; rw [run_underlying hd]; rfl)
    · rename_i k e b hd; cases hx; simp only [Option.some.injEq] at h; subst h; cases hy <;> (refine (Sem.run_bind P w (underlying t) _).trans ?_; rw [run_underlying hd]; rfl)
    · rename_i k e a hd; cases hy; simp only [Option.some.injEq] at h; subst h; cases hx; refine (Sem.run_bind P w (underlying t) _).trans ?_; rw [run_underlying hd]; rfl
    · rename_i hd; cases hx; cases hy; simp only [Option.some.injEq] at h; subst h; refine (Sem.run_bind P w (underlying t) _).trans ?_; rw [run_underlying hd]; rfl
    · rename_i hd; cases hx; simp only [Option.some.injEq] at h; subst h; cases hy <;> (refine (Sem.run_bind P w (underlying t) _).trans ?_; rw [run_underlying hd]; rfl)
    · rename_i hd; cases hy; simp only [Option.some.injEq] at h; subst h; cases hx <;> (refine (Sem.run_bind P w (underlying t) _).trans ?_; rw [run_underlying hd]; rfl)
    · rename_i fields xs ys hd
      cases hx with
      | agg hcx =>
      cases hy with
      | agg hcy =>
      rename_i xs' ys'
      split at h
      · simp at h
      · rename_i hst
        simp only [Bool.not_eq_true] at hst
        have hl := run_forIn_and (P := P) (w := w) _ (fun f : Field =>
            if f.name = "_" then pure (ForInStep.yield (none, ()))
            else do
              let __do_lift ← part f.type xs' f.offset
              let __do_lift_1 ← part f.type ys' f.offset
              let __do_lift ← Op.equalIn d f.type __do_lift __do_lift_1
              if __do_lift = false then pure (ForInStep.done (some false, ())) else pure (ForInStep.yield (none, ()))) (by
          intro f tt hf
          by_cases hn : f.name = "_"
          · simp only [hn, if_true, Option.some.injEq] at hf ⊢
            subst hf; rfl
          · simp only [hn, if_false] at hf ⊢
            split at hf
            case h_2 => simp at hf
            case h_1 a b ha hb =>
            obtain ⟨a', ha', hra⟩ := evPart_sound ha hcx w
            obtain ⟨b', hb', hrb⟩ := evPart_sound hb hcy w
            have := ih _ _ _ _ _ _ hf hra hrb
            simp only [Sem.run_bind, ha', hb', Result.andThen_ok, this]
            cases tt <;> rfl) fields.toList r h
        simp only [Array.forIn_toList] at hl
        refine (Sem.run_bind P w (underlying t) _).trans ?_
        rw [run_underlying hd, Result.andThen_ok]
        refine (Sem.run_bind P w program _).trans ?_
        rw [run_program, Result.andThen_ok]
        simp [hst]
        simp [hl]
        cases r <;> rfl
    · rename_i n elem xs ys hd
      cases hx with
      | agg hcx =>
      cases hy with
      | agg hcy =>
      rename_i xs' ys'
      split at h
      case h_2 => simp at h
      case h_1 info hi =>
      have hl := run_forIn_and (P := P) (w := w) _ (fun i_1 : Nat => do
            let __do_lift ← part elem xs' (i_1 * info.size)
            let __do_lift_1 ← part elem ys' (i_1 * info.size)
            let __do_lift ← Op.equalIn d elem __do_lift __do_lift_1
            if __do_lift = false then pure (ForInStep.done (some false, ())) else pure (ForInStep.yield (none, ()))) (by
          intro i tt hf
          split at hf
          case h_2 => simp at hf
          case h_1 a b ha hb =>
          obtain ⟨a', ha', hra⟩ := evPart_sound ha hcx w
          obtain ⟨b', hb', hrb⟩ := evPart_sound hb hcy w
          have := ih _ _ _ _ _ _ hf hra hrb
          simp only [Sem.run_bind, ha', hb', Result.andThen_ok, this]
          cases tt <;> rfl) (List.range' 0 n) r h
      refine (Sem.run_bind P w (underlying t) _).trans ?_
      rw [run_underlying hd, Result.andThen_ok]
      refine (Sem.run_bind P w (sizeOf elem) _).trans ?_
      rw [run_sizeOf hi, Result.andThen_ok]
      simp [hl]
      cases r <;> rfl
    · simp at h

/-- binOp. 'lit': one of the operands is a constant. -/
def eqOk (P : Program) (t : TypeId) (lit : Bool) (x y : Value) : Bool :=
  match x, y with
  | .nilIface, .nilIface => lit
  | .agg _, .agg _ => !P.eqGuardType P.depth t
  | .float _ _, _ | .complex _ _ _, _ => false
  | _, _ => true
def evBin (P : Program) (op : BinOp) (t : TypeId) (lit : Bool) (x y : Value) : Option Value :=
  match x, y with
  | .int k a, .int k' b =>
    match op with
    | .shl => evShift .shl k a b
    | .shr => evShift .shr k a b
    | op => if k = k' then evIntOp op k a b else none
  | .string a, .string b => evStrOp op a b
  | x, y =>
    match op with
    | .eql => if eqOk P t lit x y = true then (evEq P Op.maxDepth t x y).map .bool else none
    | .neq => if eqOk P t lit x y = true then (evEq P Op.maxDepth t x y).map fun b => .bool (!b) else none
    | _ => none

theorem eqGuard_plain {P : Program} (op : BinOp) (t : TypeId) (X Y : Operand) (x y : Value) (w : World) (h : (∃ k a k' b, x = .int k a ∧ y = .int k' b) ∨ (∃ a b, x = .string a ∧ y = .string b)) :
    (eqGuard op t X Y x y).run P w = .ok () w := by
  rcases h with ⟨k, a, k', b, rfl, rfl⟩ | ⟨a, b, rfl, rfl⟩ <;> (cases op <;> rfl)

theorem evIntOp_run {P : Program} {op : BinOp} {k : IntKind} {x y : Int} {r : Value} (h : evIntOp op k x y = some r) (t : TypeId) (w : World) (hs : op ≠ .shl) (hs' : op ≠ .shr) : (binOp op t (.int k x) (.int k y)).run P w = .ok r w := by
  cases op <;> simp only [evIntOp, Option.some.injEq, reduceCtorEq] at h <;> first
    | (subst h; simp [binOp, Op.intArith, Op.intCmp, Op.intBits]; done)
    | (split at h
       · simp at h
       · rename_i h0
         simp only [Option.some.injEq] at h
         subst h
         simp [binOp, Op.intDiv, h0])
    | exact absurd rfl hs
    | exact absurd rfl hs'

theorem evShift_run {P : Program} {op : BinOp} {k k' : IntKind} {x y : Int} {r : Value} (h : evShift op k x y = some r) (t : TypeId) (w : World) : (binOp op t (.int k x) (.int k' y)).run P w = .ok r w := by
  unfold evShift at h
  split at h
  · simp at h
  · rename_i h0
    cases op <;> simp only [Option.some.injEq, reduceCtorEq] at h
    · subst h; simp [binOp, Op.shift, h0]
    · subst h; simp [binOp, Op.shift, h0]

theorem evStrOp_run {P : Program} {op : BinOp} {x y : ByteArray} {r : Value} (h : evStrOp op x y = some r) (t : TypeId) (w : World) : (binOp op t (.string x) (.string y)).run P w = .ok r w := by
  cases op <;> simp only [evStrOp, Option.some.injEq, reduceCtorEq] at h
  · split at h
    · rename_i hb
      simp only [Option.some.injEq] at h
      subst h
      have hm : ¬ ((x.size + y.size : Nat) : Int) > IntKind.i64.max := by
        have : IntKind.i64.max = 9223372036854775807 := by decide
        omega
      simp only [binOp, Op.stringOp, hm, if_false]
      rfl
    · simp at h
  · subst h; simp [binOp, Op.stringOp]
  · subst h; simp [binOp, Op.stringOp]
end Go.Proofs.Ytfehhihllenjiaa
