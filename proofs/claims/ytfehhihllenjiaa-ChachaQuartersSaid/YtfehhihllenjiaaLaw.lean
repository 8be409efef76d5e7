/- The rows of the stream's first statements. -/
import Derived.Test.YtfehhihllenjiaaFa
import Derived.Test.YtfehhihllenjiaaZ
import Derived.Test.YtfehhihllenjiaaHead
import Derived.OpenShut
import Derived.ShutString
import Derived.ChangeOld
import Derived.Test.YtfehhihllenjiaaRows
set_option linter.all false
namespace Go.Proofs.Ytfehhihllenjiaa
open Go.ChangeShapes Go.WideShapes Go.ChangeAt Go.RowKit Go.Proofs Go.Proofs.Ytfehhihllenjiaa

theorem own : ownKnob Try.prog.godebug = none := by kernel_rfl
theorem laidOut : laidOutB Try.prog = true := by kernel_rfl

theorem progOk : ProgOk Try.prog := ⟨by kernel_rfl⟩

theorem walk3 (xs : List (BitVec 32)) (hl : xs.length = 4) (W : World) : Calls Try.prog 3 #[.agg ⟨xs.map w32⟩] W fun e W' => e = .returned (.bool true) ∧ Below W.heap.size W W' := by
  match xs, hl with
  | [a, b, c, d], _ =>
    obtain ⟨v, h', he, rfl⟩ := law3 a b c d ⟨fun _ => none, 0⟩
    exact calls_of_ev (args' := [_]) progOk Try.func3 (by kernel_rfl) he rfl (mu0_rel _ _) (fun _ _ => rfl) (VRL.closed (fun a hc => VR.closed 8 a hc) _ rfl) (fun b m hb => by cases hb)

set_option maxRecDepth 100000 in
theorem chachaQuarters_lifted (os : Os) (started : os.Started) (H : Type) (enc : TypeId × Value → H) :
    ReturnsInHanded {} Try.checked os 3 .any (Rows.chachaQuartersSpec.pre6 enc Try.prog Try.f3 Rows.chachaQuartersRow.domain false) (Rows.chachaQuartersSpec.post enc Try.prog Try.f3 false true false false) := by
  refine returnsInHanded_of_change (C := Try.checked) own started (by kernel_rfl) Try.func3
    (ChangeSpec.witness6 (enc := enc) (C := Try.checked) false ⟨#[], #[.agg #[.int .u32 0, .int .u32 0, .int .u32 0, .int .u32 0]], []⟩ 8 (by kernel_rfl) (by kernel_rfl) (by kernel_rfl) (by kernel_rfl)) ?_
  intro W base args ds gs before hval0 hW hcnd _
  have hval : ∀ (j : Nat) t v, Try.f3.params[j]? = some t → args[j]? = some v → Value.okWide Try.prog W .any base t v := hval0
  have hW' := hW
  obtain ⟨p, q, hA0, hV, rfl, hfz, hnd⟩ := hW
  have hA : DataW.TrodAll enc Try.prog W 0 (fun _ => true) true Try.f3.params.toList args.toList ds p := hA0
  rw [Try.params3] at hA hval
  obtain ⟨v0, vs0, d0, ds0, p0, q0, hargs, rfl, rfl, h0, r0⟩ := trodAll_cons hA
  obtain ⟨rfl, rfl, rfl⟩ := trodAll_nil r0
  obtain rfl : args = #[v0] := by cases args; simp_all
  obtain ⟨rfl, rfl⟩ := trodVars_none hV
  have k0 := h0
  have lt0 : ∀ x ∈ p0, x.block < W.heap.size := by obtain ⟨m, hm⟩ := k0; exact DataW.trod_lt m _ _ _ hm
  obtain ⟨xs, hl, rfl⟩ := open_arr (f := w32) Try.underlying23 (by kernel_rfl) (by kernel_rfl) Try.underlying22 (fun m hm => has_u32 hm) (hval 0 23 v0 rfl rfl)
  clear hA0 hval0
  refine (walk3 xs hl W).mono fun e W' ⟨he, bel⟩ => ?_
  subst he
  exact ⟨_, rfl, _, _, _, [], _, [], hW', trodAll_mk1 (shut_bool Try.underlying4 _), (trodAll_cons_mk (Below.trod laidOut (by kernel_rfl) (of_decide_eq_true (by kernel_rfl)) k0 bel lt0) trodAll_mk0), rfl, bel.frame _, fun h => by cases h⟩

theorem chachaQuarters_facts : joinedFacts Try.prog 3 Try.f3 Rows.chachaQuartersSpec Rows.chachaQuartersRow = true := by
  unfold joinedFacts
  rw [head_enter, head_make, head_lifts]
  kernel_rfl
theorem chachaQuarters_holds : Rows.ChachaQuartersSaid :=
  OpenClaim.holds_of_wide 3 Try.f3 rfl rfl rfl rfl rfl rfl rfl ⟨rfl, rfl, rfl, rfl, rfl⟩ rfl rfl rfl rfl rfl (by kernel_rfl) Try.func3 chachaQuarters_facts
    (of_decide_eq_true (by kernel_rfl)) (by unfold Func.isWrapper; first | (rw [if_pos (by decide +kernel)]; kernel_rfl) | (rw [if_neg (by decide +kernel)]; exact ⟨rfl, rfl⟩))
    (fun os started H enc _ => chachaQuarters_lifted os started H enc)
end Go.Proofs.Ytfehhihllenjiaa
