/- The whole evaluator, sound; the plain configuration. -/
import Derived.Test.YtfehhihllenjiaaT
set_option linter.all false
namespace Go.Proofs.Ytfehhihllenjiaa

theorem evF_sound {cfg : Cfg} (hC : CfgOk cfg) (d : Nat) {f : FuncId} {fn : Func} (hfn : cfg.P.funcs[f]? = some fn) (hg : goodFn fn = true) : SimF cfg.P f (evF cfg d f) := by
  have := body_sound (evD_sound hC (fun call h1 h2 => draw_sound hC.prog h1 h2) d) hfn hg
  have e : evF cfg d f = evBody cfg.P (evD cfg d) fn := by funext args h; unfold evF; rw [hfn]
  rw [e]; exact this

def inlOf (P : Program) (f : FuncId) : Bool := match P.funcs[f]? with
  | some fn => goodFn fn && !(fn.name == "runtime.NumGoroutine") && fn.body.isSome
  | none => false
/-- Types that hold plain data alone. -/
def plainT (P : Program) : Nat → TypeId → Bool
  | 0, _ => false
  | d + 1, t => match P.underlying t with
    | some .bool | some (.int _) | some .string => true
    | some (.struct fs) => fs.toList.all fun f => plainT P d f.type
    | some (.array _ e) => plainT P d e
    | _ => false
def isoOf (P : Program) (f : FuncId) : Bool := match P.funcs[f]? with
  | some fn => fn.params.toList.all (plainT P 6) && fn.resultTypes.toList.all (plainT P 6) && decide (fn.nfree = 0)
  | none => false
def cfg0 (P : Program) : Cfg := ⟨P, fun _ => none, isoOf P, inlOf P, isoOf P, 2 ^ 40⟩
theorem inlOf_spec {P : Program} {f : FuncId} (h : inlOf P f = true) : ∃ fn, P.funcs[f]? = some fn ∧ goodFn fn = true ∧ (fn.name == "runtime.NumGoroutine") = false ∧ fn.body.isNone = false := by
  unfold inlOf at h
  split at h
  · rename_i fn hfn
    simp only [Bool.and_eq_true, Bool.not_eq_true'] at h
    exact ⟨fn, hfn, h.1.1, h.1.2, by cases hb : fn.body with | none => rw [hb] at h; simp at h | some c => rfl⟩
  · cases h
theorem cfg0_ok {P : Program} (hP : ProgOk P) : CfgOk (cfg0 P) :=
  { prog := hP
    spec := fun f φ h => nomatch h
    body := fun f φ h => nomatch h
    inl := fun f h => inlOf_spec h
    calm := fun f h => ⟨rfl, h⟩ }

end Go.Proofs.Ytfehhihllenjiaa
