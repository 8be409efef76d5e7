/- At most so many bytes. -/
import Derived.Test.YtfehhihllenjiaaTy
import Derived.Test.YtfehhihllenjiaaC5
import Derived.KernelRfl
set_option linter.all false
namespace Go.Proofs.Ytfehhihllenjiaa
open Go.Proofs
attribute [local irreducible] evOps iter evD evF evC evLoad evStore evAlloc evIndexAddr evIndex evLenB evBox evBin evUn evConvert evExtract evSlice evAppend evCopy evNil evBuild Program.underlying
theorem inl77 : inlOf Try.prog 77 = true := by kernel_rfl
theorem iso77 : isoOf Try.prog 77 = false := by kernel_rfl
theorem few77 (k : Nat) (h : Heap) (v : Value) (xs : List (BitVec 8)) (m : Nat) (hb : By h v xs) : ∃ v', fcall Try.prog (k + 1) (.func (.func 77) #[] #[]) [v, iv m] h = some (.ok v', h) ∧ By h v' (xs.take m) ∧ ∀ r ∈ rowsOfV v', r ∈ rowsOfV v := by
  rw [fcall_inl inl77 iso77, evF_eq Try.func77 rfl]
  by_cases hm : m < xs.length
  · have : ∃ v1 h1, evEnd Try.prog Try.f77.results.toList (evS Try.prog (2 ^ 64) (fcall Try.prog k) none Try.f77.body.get! (envOf [v, iv m]) h) = some (.ok v1, h1) ∧ v1 = subS 1 0 m none v ∧ h1 = h := by
      apply evEnd_of_W
      simp only [Try.f77, Option.get!]
      repeat (first
        | refine R_seq ?_ | refine R_region ?_ | refine R_nil ?_ | refine Q_seq ?_ | refine Q_norm ?_ | refine Q_seqr ?_ | refine Q_seqx ?_ | refine Q_bl ?_ | refine Q_blr ?_ | refine Q_blx ?_ | refine Q_blo rfl ?_ | refine R_block ?_ | refine R_skip ?_ | refine R_exit ?_ | refine R_ret ?_ | refine I_true ?_ | refine I_false ?_ | refine N_exit ?_ | refine N_ret ?_
        | (refine R_draw (by kernel_rfl) ?_)
        | ((first | apply R_op | apply R_op0)
           · ((repeat (first | simp (maxDischargeDepth := 9) only [RA, Nat.reduceEqDiff, Nat.reduceLT, Nat.reduceLeDiff, Nat.reduceAdd, Nat.reduceSub, Nat.reduceMul, Nat.reduceDiv, Nat.reduceMod, Nat.reducePow, Nat.reduceBEq, Nat.reduceGT, reduceIte, S38len hb, S38ia hb, S38ld hb, S38h hb, S38l hb, S38lh hb, S38n hb, S38hm hb, S38lhm hb, S38str hb, RF, hm, Nat.le_of_lt hm, T3, T38] | simp (disch := first | assumption | omega) only [RV, S38len hb, S38ia hb, S38ld hb, S38h hb, S38l hb, S38lh hb, S38n hb, S38hm hb, S38lhm hb, S38str hb, RF, hm, Nat.le_of_lt hm])) <;> rfl))
        | (apply R_cond
           · (simp only [RE, Nat.reduceEqDiff, Nat.reduceLT, Nat.reduceLeDiff, Nat.reduceBEq, reduceIte] <;> rfl))
        | (apply R_grd
           · (simp only [yieldedA, RY, Nat.reduceEqDiff, reduceIte] <;> rfl)))
      refine ⟨.inr rfl, _, rfl, ?_, rfl⟩
      simp only [packR, upd_apply, Nat.reduceEqDiff, if_true, if_false, reduceIte]
    obtain ⟨v1, h1, e1, rfl, rfl⟩ := this
    exact ⟨_, e1, hb.subh (Nat.le_of_lt hm) (fun m hm => nomatch hm), Sl.sub_rows⟩
  · have : ∃ v1 h1, evEnd Try.prog Try.f77.results.toList (evS Try.prog (2 ^ 64) (fcall Try.prog k) none Try.f77.body.get! (envOf [v, iv m]) h) = some (.ok v1, h1) ∧ v1 = v ∧ h1 = h := by
      apply evEnd_of_W
      simp only [Try.f77, Option.get!]
      repeat (first
        | refine R_seq ?_ | refine R_region ?_ | refine R_nil ?_ | refine Q_seq ?_ | refine Q_norm ?_ | refine Q_seqr ?_ | refine Q_seqx ?_ | refine Q_bl ?_ | refine Q_blr ?_ | refine Q_blx ?_ | refine Q_blo rfl ?_ | refine R_block ?_ | refine R_skip ?_ | refine R_exit ?_ | refine R_ret ?_ | refine I_true ?_ | refine I_false ?_ | refine N_exit ?_ | refine N_ret ?_
        | (refine R_draw (by kernel_rfl) ?_)
        | ((first | apply R_op | apply R_op0)
           · ((repeat (first | simp (maxDischargeDepth := 9) only [RA, Nat.reduceEqDiff, Nat.reduceLT, Nat.reduceLeDiff, Nat.reduceAdd, Nat.reduceSub, Nat.reduceMul, Nat.reduceDiv, Nat.reduceMod, Nat.reducePow, Nat.reduceBEq, Nat.reduceGT, reduceIte, S38len hb, S38ia hb, S38ld hb, S38h hb, S38l hb, S38lh hb, S38n hb, S38hm hb, S38lhm hb, S38str hb, RF, hm, T3, T38] | simp (disch := first | assumption | omega) only [RV, S38len hb, S38ia hb, S38ld hb, S38h hb, S38l hb, S38lh hb, S38n hb, S38hm hb, S38lhm hb, S38str hb, RF, hm])) <;> rfl))
        | (apply R_cond
           · (simp only [RE, Nat.reduceEqDiff, Nat.reduceLT, Nat.reduceLeDiff, Nat.reduceBEq, reduceIte] <;> rfl))
        | (apply R_grd
           · (simp only [yieldedA, RY, Nat.reduceEqDiff, reduceIte] <;> rfl)))
      refine ⟨.inr rfl, _, rfl, ?_, rfl⟩
      simp only [packR, upd_apply, Nat.reduceEqDiff, if_true, if_false, reduceIte]
    obtain ⟨v1, h1, e1, rfl, rfl⟩ := this
    refine ⟨_, e1, ?_, fun r hr => hr⟩
    rw [List.take_of_length_le (by omega)]
    exact hb
end Go.Proofs.Ytfehhihllenjiaa
