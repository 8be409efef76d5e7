/- The rows of the stream's first statements. -/
import Derived.Test.YtfehhihllenjiaaFe
import Derived.Test.YtfehhihllenjiaaZ
import Derived.Test.YtfehhihllenjiaaHead
import Derived.OpenShut
import Derived.ShutString
import Derived.ChangeOld
import Derived.Test.YtfehhihllenjiaaRows
set_option linter.all false
namespace Go.Proofs.Ytfehhihllenjiaa
open Go.ChangeShapes Go.WideShapes Go.ChangeAt Go.RowKit Go.Proofs Go.Proofs.Ytfehhihllenjiaa

theorem own : ownKnob Try.prog.godebug = none := by kernel_rfl
theorem laidOut : laidOutB Try.prog = true := by kernel_rfl

theorem progOk : ProgOk Try.prog := ⟨by kernel_rfl⟩

theorem walk5 (k n : List (BitVec 8)) (hk : k.length = 32) (hn : n.length = 12) (c : BitVec 32) (W : World) : Calls Try.prog 5 #[.agg ⟨b8 k⟩, .agg ⟨b8 n⟩, w32 c] W fun e W' => e = .returned (.bool true) ∧ Below W.heap.size W W' := by
  obtain ⟨v, h', he, rfl⟩ := law5 k n hk hn c ⟨fun _ => none, 0⟩
  exact calls_of_ev (args' := [_, _, _]) progOk Try.func5 (by kernel_rfl) he rfl (mu0_rel _ _) (fun _ _ => rfl) (VRL.closed (fun a hc => VR.closed 8 a hc) _ (by simp only [List.all_cons, List.all_nil, closed_agg8, closed_w32, Bool.and_true])) (fun b m hb => by cases hb)

set_option maxRecDepth 100000 in
theorem chachaBlocks_lifted (os : Os) (started : os.Started) (H : Type) (enc : TypeId × Value → H) :
    ReturnsInHanded {} Try.checked os 5 .any (Rows.chachaBlocksSpec.pre6 enc Try.prog Try.f5 Rows.chachaBlocksRow.domain false) (Rows.chachaBlocksSpec.post enc Try.prog Try.f5 false true false false) := by
  refine returnsInHanded_of_change (C := Try.checked) own started (by kernel_rfl) Try.func5
    (ChangeSpec.witness6 (enc := enc) (C := Try.checked) false ⟨#[], #[.agg #[.int .u8 0, .int .u8 0, .int .u8 0, .int .u8 0, .int .u8 0, .int .u8 0, .int .u8 0, .int .u8 0, .int .u8 0, .int .u8 0, .int .u8 0, .int .u8 0, .int .u8 0, .int .u8 0, .int .u8 0, .int .u8 0, .int .u8 0, .int .u8 0, .int .u8 0, .int .u8 0, .int .u8 0, .int .u8 0, .int .u8 0, .int .u8 0, .int .u8 0, .int .u8 0, .int .u8 0, .int .u8 0, .int .u8 0, .int .u8 0, .int .u8 0, .int .u8 0], .agg #[.int .u8 0, .int .u8 0, .int .u8 0, .int .u8 0, .int .u8 0, .int .u8 0, .int .u8 0, .int .u8 0, .int .u8 0, .int .u8 0, .int .u8 0, .int .u8 0], .int .u32 0], []⟩ 8 (by kernel_rfl) (by kernel_rfl) (by kernel_rfl) (by kernel_rfl)) ?_
  intro W base args ds gs before hval0 hW hcnd _
  have hval : ∀ (j : Nat) t v, Try.f5.params[j]? = some t → args[j]? = some v → Value.okWide Try.prog W .any base t v := hval0
  have hW' := hW
  obtain ⟨p, q, hA0, hV, rfl, hfz, hnd⟩ := hW
  have hA : DataW.TrodAll enc Try.prog W 0 (fun _ => true) true Try.f5.params.toList args.toList ds p := hA0
  rw [Try.params5] at hA hval
  obtain ⟨v0, vs0, d0, ds0, p0, q0, hargs, rfl, rfl, h0, r0⟩ := trodAll_cons hA
  obtain ⟨v1, vs1, d1, ds1, p1, q1, rfl, rfl, rfl, h1, r1⟩ := trodAll_cons r0
  obtain ⟨v2, vs2, d2, ds2, p2, q2, rfl, rfl, rfl, h2, r2⟩ := trodAll_cons r1
  obtain ⟨rfl, rfl, rfl⟩ := trodAll_nil r2
  obtain rfl : args = #[v0, v1, v2] := by cases args; simp_all
  obtain ⟨rfl, rfl⟩ := trodVars_none hV
  have k0 := h0
  have k1 := h1
  have k2 := h2
  have lt0 : ∀ x ∈ p0, x.block < W.heap.size := by obtain ⟨m, hm⟩ := k0; exact DataW.trod_lt m _ _ _ hm
  have lt1 : ∀ x ∈ p1, x.block < W.heap.size := by obtain ⟨m, hm⟩ := k1; exact DataW.trod_lt m _ _ _ hm
  have lt2 : ∀ x ∈ p2, x.block < W.heap.size := by obtain ⟨m, hm⟩ := k2; exact DataW.trod_lt m _ _ _ hm
  obtain ⟨xk, hlk, rfl⟩ := open_arr (f := w8) Try.underlying30 (by kernel_rfl) (by kernel_rfl) Try.underlying5 (fun m hm => has_u8 hm) (hval 0 30 v0 rfl rfl)
  obtain ⟨xn, hln, rfl⟩ := open_arr (f := w8) Try.underlying32 (by kernel_rfl) (by kernel_rfl) Try.underlying5 (fun m hm => has_u8 hm) (hval 1 32 v1 rfl rfl)
  obtain ⟨xc, rfl⟩ : ∃ x, v2 = w32 x := by
    have hv2 := hval 2 22 v2 rfl rfl
    simp only [Value.okWide, Try.underlying22] at hv2
    obtain ⟨m, rfl, hm⟩ := cell_int Try.underlying22 hv2
    exact has_u32 hm
  clear hA0 hval0
  refine (walk5 xk xn hlk hln xc W).mono fun e W' ⟨he, bel⟩ => ?_
  subst he
  exact ⟨_, rfl, _, _, _, [], _, [], hW', trodAll_mk1 (shut_bool Try.underlying4 _), (trodAll_cons_mk (Below.trod laidOut (by kernel_rfl) (of_decide_eq_true (by kernel_rfl)) k0 bel lt0) (trodAll_cons_mk (Below.trod laidOut (by kernel_rfl) (of_decide_eq_true (by kernel_rfl)) k1 bel lt1) (trodAll_cons_mk (Below.trod laidOut (by kernel_rfl) (of_decide_eq_true (by kernel_rfl)) k2 bel lt2) trodAll_mk0))), rfl, bel.frame _, fun h => by cases h⟩

theorem chachaBlocks_facts : joinedFacts Try.prog 5 Try.f5 Rows.chachaBlocksSpec Rows.chachaBlocksRow = true := by
  unfold joinedFacts
  rw [head_enter, head_make, head_lifts]
  kernel_rfl
theorem chachaBlocks_holds : Rows.ChachaBlocksSaid :=
  OpenClaim.holds_of_wide 5 Try.f5 rfl rfl rfl rfl rfl rfl rfl ⟨rfl, rfl, rfl, rfl, rfl⟩ rfl rfl rfl rfl rfl (by kernel_rfl) Try.func5 chachaBlocks_facts
    (of_decide_eq_true (by kernel_rfl)) (by unfold Func.isWrapper; first | (rw [if_pos (by decide +kernel)]; kernel_rfl) | (rw [if_neg (by decide +kernel)]; exact ⟨rfl, rfl⟩))
    (fun os started H enc _ => chachaBlocks_lifted os started H enc)
end Go.Proofs.Ytfehhihllenjiaa
