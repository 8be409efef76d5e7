/- From the evaluator to the rows of statements. -/
import Derived.Test.YtfehhihllenjiaaY
import Derived.ProofKit
import Derived.Below
import Derived.Carry
set_option linter.all false
namespace Go.Proofs.Ytfehhihllenjiaa
open Go.ChangeShapes Go.WideShapes Go.ChangeAt Go.RowKit

/-- The evaluator says what the model's call comes to. -/
theorem calls_of_ev {P : Program} (hP : ProgOk P) {f : FuncId} {fn : Func} (hfn : P.funcs[f]? = some fn) (hg : goodFn fn = true) {d : Nat} {args : List Value} {args' : List Value} {μ : Mu} {h h' : Heap} {W : World} {v : Value}
    (he : evF (cfg0 P) d f args h = some (.ok v, h')) (hv : closedV 8 v = true) (hr : Rel μ h W) (hf : Fresh μ h) (ha : VRL μ args args') (hro : ∀ b m, μ b = some m → m.k = .ro) :
    Calls P f args'.toArray W fun e W' => e = .returned v ∧ Below W.heap.size W W' := by
  refine (evF_sound (cfg0_ok hP) d hfn hg μ h W args args' _ h' hr hf ha he).mono fun e W' ⟨μ', st, hrel⟩ => ?_
  cases e with
  | returned v' =>
    refine ⟨by rw [VR.closed_inv 8 v v' hv hrel], st.pres.os, st.pres.tape, st.pres.output, st.pres.size, fun B hB => st.pres.block B hB fun b m hb _ hk => absurd (hro b m hb) hk⟩
  | panicked ch => exact hrel.elim
  | outgrown => exact hrel.elim

/-! what an argument is -/
theorem has_u8 {n : Int} (h : IntKind.u8.has n) : ∃ x : BitVec 8, Value.int .u8 n = w8 x := by
  have h1 : (0 : Int) ≤ n := h.1
  have h2 : n ≤ 255 := h.2
  refine ⟨BitVec.ofNat 8 n.toNat, ?_⟩
  unfold w8
  rw [BitVec.toNat_ofNat, Nat.mod_eq_of_lt (by omega)]
  congr 1
  omega
theorem has_u32 {n : Int} (h : IntKind.u32.has n) : ∃ x : BitVec 32, Value.int .u32 n = w32 x := by
  have h1 : (0 : Int) ≤ n := h.1
  have h2 : n ≤ 4294967295 := h.2
  refine ⟨BitVec.ofNat 32 n.toNat, ?_⟩
  unfold w32
  rw [BitVec.toNat_ofNat, Nat.mod_eq_of_lt (by omega)]
  congr 1
  omega
theorem has_u64 {n : Int} (h : IntKind.u64.has n) : ∃ x : BitVec 64, Value.int .u64 n = w64 x := by
  have h1 : (0 : Int) ≤ n := h.1
  have h2 : n ≤ 18446744073709551615 := h.2
  refine ⟨BitVec.ofNat 64 n.toNat, ?_⟩
  unfold w64
  rw [BitVec.toNat_ofNat, Nat.mod_eq_of_lt (by omega)]
  congr 1
  omega
theorem cell_int {P : Program} {W : World} {r : Reach} {base : Nat} {u : TypeId} {k : IntKind} {v : Value} (hu : P.underlying u = some (.int k)) (h : Cell.okWide P W r base u v) : ∃ n, v = .int k n ∧ k.has n := by
  simp only [Cell.okWide, Cell.ok, hu] at h
  cases v with
  | int k' n =>
    obtain ⟨rfl, h2⟩ := h
    exact ⟨n, rfl, h2⟩
  | _ => exact h.elim
theorem list_of {α : Type} {f : α → Value} : ∀ (l : List Value), (∀ v ∈ l, ∃ x, v = f x) → ∃ xs : List α, l = xs.map f
  | [], _ => ⟨[], rfl⟩
  | v :: l, h => by
    obtain ⟨x, rfl⟩ := h v (by simp)
    obtain ⟨xs, rfl⟩ := list_of l fun v hv => h v (by simp [hv])
    exact ⟨x :: xs, rfl⟩
theorem open_arr {α : Type} {f : α → Value} {P : Program} {W : World} {r : Reach} {base : Nat} {t el : TypeId} {n : Nat} {k : IntKind} {v : Value} (hd : P.underlying t = some (.array n el)) (hct : P.cellTypes P.depth t = some (List.replicate n el))
    (hs : P.cellsOf t = n) (he : P.underlying el = some (.int k)) (hf : ∀ m, k.has m → ∃ x, Value.int k m = f x) (h : Value.okWide P W r base t v) : ∃ xs : List α, xs.length = n ∧ v = .agg ⟨xs.map f⟩ := by
  simp only [Value.okWide, hd] at h
  obtain ⟨cs, rfl, hsz, ts, hts, _, hall⟩ := h
  rw [hct] at hts
  cases hts
  obtain ⟨xs, hxs⟩ := list_of (f := f) cs.toList fun v hv => by
    obtain ⟨i, hi, hiv⟩ := List.getElem_of_mem hv
    obtain ⟨u, hu, hc⟩ := hall i v (by simp at hi; simp [hi]; simpa using hiv)
    have : u = el := by
      have := List.mem_of_getElem? hu
      simpa using (List.eq_of_mem_replicate this)
    subst this
    obtain ⟨m, rfl, hm⟩ := cell_int he hc
    exact hf m hm
  refine ⟨xs, ?_, by rw [← hxs]⟩
  have := congrArg List.length hxs
  simp at this
  omega
theorem mu0_rel (W : World) (h : Heap) : Rel (fun _ => none) h W := ⟨fun b m o hb => (by cases hb), fun b b' m m' hb => (by cases hb)⟩
end Go.Proofs.Ytfehhihllenjiaa
