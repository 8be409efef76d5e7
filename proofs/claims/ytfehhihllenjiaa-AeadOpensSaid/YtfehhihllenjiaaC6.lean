/- The heap, given a name. -/
import Derived.Test.YtfehhihllenjiaaC4
set_option linter.all false
namespace Go.Proofs.Ytfehhihllenjiaa
section
variable {P : Program} {R : Nat} {call : Value → Phi} {ar : Option Nat} {e : Env} {h h' : Heap} {Q : Post} {all : Array Oper} {l : List Oper} {c : Code} {F : List Nat} {S : Nat → Prop} {i : Nat}
theorem W_heap (hw : ∀ H, H = h → W (evS P R call ar c e H) Q) : W (evS P R call ar c e h) Q := hw h rfl
end
theorem by_sub {h : Heap} {b i c : Nat} {k : Kind} {ys xs : List (BitVec 8)} {n : Nat} (hb : b < h.nx) (ho : h.obj b = some (.row k 1 (b8 ys))) (hn : n ≤ c) (hl : i + n ≤ ys.length) (hx : (ys.drop i).take n = xs) : By h (.slice (some ⟨b, i, none⟩) n c) xs :=
  .mk hb ho (fun _ => rfl) hn hl hx
end Go.Proofs.Ytfehhihllenjiaa
/- Slices of any cells that are one's own; words. -/
set_option linter.all false
namespace Go.Proofs.Ytfehhihllenjiaa
section
variable {P : Program} {R : Nat} {call : Value → Phi} {ar : Option Nat} {e : Env} {h h' : Heap} {Q : Post} {all : Array Oper} {l : List Oper} {ty : TypeId} {pos : String} {af : Array Edge} {F : List Nat} {S : Nat → Prop} {i : Nat}
variable {t el xt el2 : TypeId} {info : TypeInfo} {z : Value} {lo n m : Nat} {cs ys : List Value} {a b c : Operand} {d : Nat}
theorem R_appG (E : ElOk P t el info 1 z) (hx : P.underlying xt = some (.slice el2)) {v w : Value} (ha : ev e a = v) (hb : ev e b = w) (s : Ow lo 1 h v n cs) (hw : Sl 1 h w m ys) (h1 : ys.all (fun v => v.oneCell') = true) (hl : lo ≤ h.nx) (hle : n + m ≤ 4294967296)
    (k : ∀ v' h', Ow lo 1 h' v' (n + m) (cs ++ ys) → Went v v' h h' → W (evOps call P all l (upd e d v') h') Q) :
    W (evOps call P all (⟨some d, .call ⟨.builtin .append, #[a, b], #[t, xt]⟩, ty, pos, af, none⟩ :: l) e h) Q := by
  subst ha hb
  obtain ⟨v', h', h2, h3, h4⟩ := app_ow E s (new_sl (info := info) (z := z) hx E.hs hw) (by rw [hw.length]) h1 hl hle
  refine R_op (v := v') (h' := h') ?_ (k v' h' h3 h4)
  rw [op_builtin]
  show okVH (evAppend P t xt (ev e a) (ev e b) h) = _
  rw [h2]; rfl
end
section
variable {P : Program} {el : TypeId} {info : TypeInfo} {h H : Heap} {v : Value} {n i : Nat} {cs : List Value} {xs : List (BitVec 32)}
end
end Go.Proofs.Ytfehhihllenjiaa
/- Ranges over functions. -/
set_option linter.all false
namespace Go.Proofs.Ytfehhihllenjiaa
section
variable {P : Program} {R : Nat} {call : Value → Phi} {ar : Option Nat} {e : Env} {h h' : Heap} {Q : Post}
theorem obj_push {o : AObj} {b : Nat} : (h.push o).obj b = if b = h.nx then some o else h.obj b := rfl
theorem nx_push {o : AObj} : (h.push o).nx = h.nx + 1 := rfl
theorem Fr.push {lo : Nat} {h h' : Heap} (a : Fr lo h h') (hl : lo ≤ h'.nx) (o : AObj) : Fr lo h (h'.push o) :=
  ⟨by have := a.1; rw [nx_push]; omega, fun r hr => by rw [obj_push, if_neg (by omega)]; exact a.2 r hr⟩
theorem R_range {g : FuncId} {first cap : Array Value} {f : Operand} {params : Array Tmp} {assign body : Code} {p : Heap → Prop} (hf : ev e f = .func (.func g) first cap)
    (hc : ∃ v h2, call (.func (.func g) first cap) [.func (.yield h.nx) #[] #[]] (h.push (.loop ⟨.ready, none, e, params, assign, body⟩)) = some (.ok v, h2) ∧ p h2)
    (hp : ∀ h2, p h2 → ∃ L, h2.obj h.nx = some (.loop L) ∧ L.state ≠ .busy ∧ L.pending = none ∧ Q .normal e (h2.put h.nx (some (.loop { L with state := .exhausted })))) :
    W (evS P R call none (.rangeFunc f params assign body) e h) Q := by
  obtain ⟨v, h2, h3, h4⟩ := hc
  obtain ⟨L, h5, h6, h7, h8⟩ := hp h2 h4
  unfold W
  refine ⟨.normal, e, _, ?_, h8⟩
  unfold evS evRange
  rw [hf]
  rw [if_pos ⟨rfl, rfl⟩, h3]
  simp only [h5, h6, h7, if_false]
theorem fcall_clo {d : Nat} {f : FuncId} {first cap : Array Value} {args : List Value} (hi : inlOf P f = true) (hs : isoOf P f = false) : fcall P d (.func (.func f) first cap) args h = evF (cfg0 P) d f (first.toList ++ args ++ cap.toList) h := by
  obtain ⟨fn, hfn, _⟩ := inlOf_spec hi
  have e : evF (cfg0 P) d f = evBody P (evD (cfg0 P) d) fn := by funext args h; unfold evF; rw [show (cfg0 P).P.funcs[f]? = some fn from hfn]; rfl
  rw [e]
  unfold fcall
  simp only [evCall]
  simp only [cfg0, hi, hfn, hs, if_true]
  simp
theorem round_W {d l : Nat} {L : ALoop} {args : List Value} {p : Value → Heap → Prop} (hl : h.obj l = some (.loop L)) (hs : L.state = .ready) (hn : args.length = L.params.size)
    (hw : W (evS P (2 ^ 64) (fcall P d) (some l) L.assign (bindE L.tmps L.params.toList args) h) fun x e1 h1 => x = .normal ∧ h1.obj l = some (.loop L) ∧
      W (evS P (2 ^ 64) (fcall P d) (some l) L.body e1 (h1.put l (some (.loop { L with state := .busy })))) fun x e2 h2 => x = .normal ∧ ∃ L2, h2.obj l = some (.loop L2) ∧ p (.bool true) (h2.put l (some (.loop { L2 with state := .ready, pending := none })))) :
    ∃ v h', fcall P (d + 1) (.func (.yield l) #[] #[]) args h = some (.ok v, h') ∧ p v h' := by
  unfold W at hw
  obtain ⟨x, e1, h1, h2, rfl, h4, x2, e2, h3, h5, rfl, L2, h6, h7⟩ := hw
  refine ⟨_, _, ?_, h7⟩
  have r1 : ∀ c, evD (cfg0 P) (d + 1) (some l) c = evS P (2 ^ 64) (fcall P d) (some l) c := fun c => by
    unfold fcall
    exact evC_eq_evS c
  unfold fcall
  show evRound (evD (cfg0 P) (d + 1)) l args h = _
  unfold evRound
  rw [hl]
  simp only [hs, hn, and_self, if_true, r1, h2, h4, h5, h6]
theorem Sl.not_loop {es : Nat} {v : Value} {n : Nat} {cs : List Value} {l : Nat} {L : ALoop} (s : Sl es h v n cs) (hl : h.obj l = some (.loop L)) : l ∉ rowsOfV v := by
  intro hr
  cases s with
  | nil => simp [rowsOfV] at hr
  | empty => simp [rowsOfV, emptyS] at hr
  | any => simp [rowsOfV, anyS] at hr
  | row hb ho => simp [rowsOfV] at hr; subst hr; rw [hl] at ho; cases ho
theorem R_range2 {g : FuncId} {first cap : Array Value} {f : Operand} {params : Array Tmp} {assign body : Code} {p : Heap → Prop} (hf : ev e f = .func (.func g) first cap)
    (hc : ∀ L0 : ALoop, L0 = ⟨.ready, none, e, params, assign, body⟩ → ∃ v h2, call (.func (.func g) first cap) [.func (.yield h.nx) #[] #[]] (h.push (.loop L0)) = some (.ok v, h2) ∧ h2.obj h.nx = some (.loop L0) ∧ p (h2.put h.nx (some (.loop { L0 with state := .exhausted }))))
    (hp : ∀ h2, p h2 → Q .normal e h2) : W (evS P R call none (.rangeFunc f params assign body) e h) Q := by
  obtain ⟨v, h2, h3, h4, h5⟩ := hc _ rfl
  exact R_range (p := fun H => H = h2) hf ⟨v, h2, h3, rfl⟩ (fun H hH => by
    subst hH
    exact ⟨_, h4, (nomatch ·), rfl, hp _ h5⟩)
theorem bindA1 {e : Env} {t : Tmp} {a : Value} : bindE e (#[t] : Array Tmp).toList [a] = upd e t a := rfl
end
end Go.Proofs.Ytfehhihllenjiaa
/- Copies into arrays. -/
set_option linter.all false
namespace Go.Proofs.Ytfehhihllenjiaa
section
variable {P : Program} {R : Nat} {call : Value → Phi} {ar : Option Nat} {e : Env} {h h' : Heap} {Q : Post} {all : Array Oper} {l : List Oper} {ty : TypeId} {pos : String} {af : Array Edge}
variable {t el xt el2 : TypeId} {info : TypeInfo} {z : Value} {xs ys : List (BitVec 8)} {a b c : Operand} {d p n : Nat}
theorem R_cpA (E : ElOk P t el info 1 z) {w : Value} (ha : ev e a = .slice (some ⟨p, 0, none⟩) n n) (hb : ev e b = w) (ho : h.obj p = some (.row .rw 1 (b8 xs))) (hn : xs.length = n) (hw : By h w ys) (hle : ys.length ≤ n)
    (k : ∀ h', h'.obj p = some (.row .rw 1 (b8 (ys ++ xs.drop ys.length))) → (∀ r, r ≠ p → h'.obj r = h.obj r) → h'.nx = h.nx → W (evOps call P all l (upd e d (iv ys.length)) h') Q) :
    W (evOps call P all (⟨some d, .call ⟨.builtin .copy, #[a, b], #[t, xt]⟩, ty, pos, af, none⟩ :: l) e h) Q := by
  subst hb
  have hel := sl_elems hw (Nat.le_refl _)
  rw [List.take_of_length_le (by rw [b8_length]; omega)] at hel
  have hmin : Nat.min ys.length n = ys.length := Nat.min_eq_left hle
  have hvl : evLen (.slice (some ⟨p, 0, none⟩) n n) = some n := rfl
  have hsv : isSliceV (.slice (some ⟨p, 0, none⟩) n n) = true := rfl
  have key : ∃ h', evCopy P t (.slice (some ⟨p, 0, none⟩) n n) (ev e b) h = some (iv ys.length, h') ∧ h'.obj p = some (.row .rw 1 (b8 (ys ++ xs.drop ys.length))) ∧ (∀ r, r ≠ p → h'.obj r = h.obj r) ∧ h'.nx = h.nx := by
    unfold evCopy
    simp only [E.hd, E.hi, hvl, sl_evLen hw, hsv, hmin, E.hs, hel]
    by_cases h0 : ys = []
    · subst h0
      refine ⟨h, if_pos b8_nil, ?_, fun _ _ => rfl, rfl⟩
      simpa using ho
    · have hne : b8 ys ≠ [] := fun hh => h0 (by cases ys with | nil => rfl | cons => simp [b8] at hh)
      rw [if_neg hne]
      simp only [ho]
      rw [if_pos ⟨by simp, by rw [b8_length, b8_length]; omega, b8_all _⟩]
      refine ⟨_, rfl, ?_, fun r hr => by rw [obj_put, if_neg hr], rfl⟩
      rw [obj_put, if_pos rfl]
      have h2 := setAt_append (b8 ys) [] (b8 xs) (by rw [b8_length, b8_length]; omega)
      simp only [List.nil_append, List.length_nil] at h2
      rw [h2, b8_append, b8_drop, b8_length]
  obtain ⟨h', h1, h2, h3, h4⟩ := key
  refine R_op (v := iv ys.length) (h' := h') ?_ (k h' h2 h3 h4)
  rw [op_builtin]
  show okVH (evCopy P t (ev e a) (ev e b) h) = _
  rw [ha, h1]; rfl
end
end Go.Proofs.Ytfehhihllenjiaa
