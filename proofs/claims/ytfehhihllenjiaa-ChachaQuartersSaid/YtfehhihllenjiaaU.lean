/- The whole evaluator, sound; the plain configuration. -/
import Derived.Test.YtfehhihllenjiaaT
set_option linter.all false
namespace Go.Proofs.Ytfehhihllenjiaa

theorem evF_sound {cfg : Cfg} (hC : CfgOk cfg) (d : Nat) {f : FuncId} {fn : Func} (hfn : cfg.P.funcs[f]? = some fn) (hg : goodFn fn = true) : SimF cfg.P f (evF cfg d f) := by
  have := body_sound (evD_sound hC (fun call h1 h2 => draw_sound hC.prog h1 h2) d) hfn hg
  have e : evF cfg d f = evBody cfg.P (evD cfg d) fn := by funext args h; unfold evF; rw [hfn]
  rw [e]; exact this

def inlOf (P : Program) (f : FuncId) : Bool := match P.funcs[f]? with
  | some fn => goodFn fn && !(fn.name == "runtime.NumGoroutine") && fn.body.isSome
  | none => false
/-- Types that hold plain data alone. -/
def plainT (P : Program) : Nat → TypeId → Bool
  | 0, _ => false
  | d + 1, t => match P.underlying t with
    | some .bool | some (.int _) | some .string => true
    | some (.struct fs) => fs.toList.all fun f => plainT P d f.type
    | some (.array _ e) => plainT P d e
    | _ => false
def isoOf (P : Program) (f : FuncId) : Bool := match P.funcs[f]? with
  | some fn => fn.params.toList.all (plainT P 6) && fn.resultTypes.toList.all (plainT P 6) && decide (fn.nfree = 0)
  | none => false
def cfg0 (P : Program) : Cfg := ⟨P, fun _ => none, isoOf P, inlOf P, isoOf P, 2 ^ 40⟩
theorem inlOf_spec {P : Program} {f : FuncId} (h : inlOf P f = true) : ∃ fn, P.funcs[f]? = some fn ∧ goodFn fn = true ∧ (fn.name == "runtime.NumGoroutine") = false ∧ fn.body.isNone = false := by
  unfold inlOf at h
  split at h
  · rename_i fn hfn
    simp only [Bool.and_eq_true, Bool.not_eq_true'] at h
    exact ⟨fn, hfn, h.1.1, h.1.2, by cases hb : fn.body with | none => rw [hb] at h; simp at h | some c => rfl⟩
  · cases h
theorem cfg0_ok {P : Program} (hP : ProgOk P) : CfgOk (cfg0 P) :=
  { prog := hP
    spec := fun f φ h => nomatch h
    body := fun f φ h => nomatch h
    inl := fun f h => inlOf_spec h
    calm := fun f φ _ _ _ _ _ h => nomatch h
    calmS := fun f h => .inr h }

/-- A configuration with functions that change nothing that was there. -/
noncomputable def calmPhi (φ : Phi) : Phi := fun args h => open Classical in
  match φ args h with
  | some (.ok v, h') => if ∀ b, b < h.nx → h'.obj b = h.obj b then some (.ok v, h') else none
  | _ => none
theorem calmPhi_sub {φ : Phi} {args : List Value} {h h' : Heap} {r : Rs} (he : calmPhi φ args h = some (r, h')) : φ args h = some (r, h') ∧ (∃ v, r = .ok v) ∧ ∀ b, b < h.nx → h'.obj b = h.obj b := by
  unfold calmPhi at he
  split at he
  · rename_i v h1 hφ
    split at he
    · rename_i hq
      simp only [Option.some.injEq, Prod.mk.injEq] at he
      obtain ⟨rfl, rfl⟩ := he
      exact ⟨hφ, ⟨v, rfl⟩, hq⟩
    · cases he
  · cases he
theorem calmPhi_eq {φ : Phi} {args : List Value} {h h' : Heap} {v : Value} (he : φ args h = some (.ok v, h')) (hq : ∀ b, b < h.nx → h'.obj b = h.obj b) : calmPhi φ args h = some (.ok v, h') := by
  unfold calmPhi
  rw [he]
  exact if_pos hq
noncomputable def cfgC (P : Program) (calm : FuncId → Bool) (d : Nat) : Cfg :=
  ⟨P, fun f => if calm f = true ∧ inlOf P f = true then some (calmPhi (evF (cfg0 P) d f)) else none, fun f => (calm f && inlOf P f) || isoOf P f, inlOf P, isoOf P, 2 ^ 40⟩
theorem cfgC_ok {P : Program} (hP : ProgOk P) (calm : FuncId → Bool) (d : Nat) : CfgOk (cfgC P calm d) := by
  refine ⟨hP, fun f φ h => ?_, fun f φ h => ?_, fun f h => inlOf_spec h, fun f φ args h r h' hc hs he => ?_, fun f h => ?_⟩
  · simp only [cfgC] at h
    split at h
    · rename_i hi
      obtain ⟨fn, hfn, hg, _⟩ := inlOf_spec hi.2
      simp only [Option.some.injEq] at h
      subst h
      intro μ h w args args' r h' hr hf ha he
      exact evF_sound (cfg0_ok hP) d hfn hg μ h w args args' r h' hr hf ha (calmPhi_sub he).1
    · cases h
  · simp only [cfgC] at h
    split at h
    · rename_i hi
      obtain ⟨fn, hfn, hg, h3, h4⟩ := inlOf_spec hi.2
      exact ⟨fn, hfn, h3, h4⟩
    · cases h
  · simp only [cfgC] at hs
    split at hs
    · simp only [Option.some.injEq] at hs
      subst hs
      exact (calmPhi_sub he).2
    · cases hs
  · simp only [cfgC, Bool.or_eq_true, Bool.and_eq_true] at h ⊢
    rcases h with h | h
    · rw [if_pos h]; exact .inl rfl
    · exact .inr h
end Go.Proofs.Ytfehhihllenjiaa
