/- The digest: what is turned; words. -/
import Derived.Test.YtfehhihllenjiaaFa
import Derived.Test.YtfehhihllenjiaaPb
import Derived.Test.YtfehhihllenjiaaC6
set_option linter.all false
namespace Go.Proofs.Ytfehhihllenjiaa
open Go.Proofs
attribute [local irreducible] evOps iter evD evF evC evLoad evStore evAlloc evIndexAddr evIndex evLenB evBox evBin evUn evConvert evExtract evSlice evAppend evCopy evNil evBuild evMakeSlice evBuildSlice evBuiltin Program.underlying
attribute [local irreducible] kl wl rnds
set_option maxRecDepth 20000 in
set_option maxHeartbeats 8000000 in
theorem rotn87 (n : Nat) (x : BitVec 32) (k : Nat) (hk0 : 0 < k) (hk : k < 32) (h : Heap) : fcall Try.prog (n + 1) (.func (.func 87) #[] #[]) [w32 x, nv k] h = some (.ok (w32 (x.rotateRight k)), h) := by
  rw [fcall_iso inl87 iso87]
  have : ∃ v h1, evF (cfg0 Try.prog) (n + 0 + 1) 87 [w32 x, nv k] ⟨fun _ => none, 0⟩ = some (.ok v, h1) ∧ v = (w32 (x.rotateRight k)) := by
    rw [evF_eq Try.func87 rfl]
    apply evEnd_of_W
    simp only [Try.f87]
    repeat (first
      | refine R_seq ?_ | refine R_region ?_ | refine R_nil ?_ | refine Q_seq ?_ | refine Q_norm ?_ | refine Q_seqr ?_ | refine Q_seqx ?_ | refine Q_bl ?_ | refine Q_blr ?_ | refine Q_blx ?_ | refine Q_blo rfl ?_ | refine R_block ?_ | refine R_skip ?_ | refine R_exit ?_ | refine R_ret ?_ | refine I_true ?_ | refine I_false ?_ | refine N_exit ?_ | refine N_ret ?_
      | (refine R_draw (by kernel_rfl) ?_)
      | ((first | apply R_op | apply R_op0)
         · (first | (simp (maxDischargeDepth := 9) only [RA, Nat.reduceEqDiff, Nat.reduceLT, Nat.reduceLeDiff, Nat.reduceAdd, Nat.reduceSub, Nat.reduceMul, Nat.reduceDiv, Nat.reduceMod, Nat.reducePow, Nat.reduceBEq, Nat.reduceGT, reduceIte, cvn_64 Try.underlying3 Try.underlying94 (show k ≤ 18446744073709551616 by omega), T3, T22, T94, cvi_64 Try.underlying3 Try.underlying94] <;> rfl) | ((repeat (first | (simp (maxDischargeDepth := 9) only [RA, Nat.reduceEqDiff, Nat.reduceLT, Nat.reduceLeDiff, Nat.reduceAdd, Nat.reduceSub, Nat.reduceMul, Nat.reduceDiv, Nat.reduceMod, Nat.reducePow, Nat.reduceBEq, Nat.reduceGT, reduceIte, cvn_64 Try.underlying3 Try.underlying94 (show k ≤ 18446744073709551616 by omega), T3, T22, T94, cvi_64 Try.underlying3 Try.underlying94]; done) | simp (maxDischargeDepth := 9) only [RA, Nat.reduceEqDiff, Nat.reduceLT, Nat.reduceLeDiff, Nat.reduceAdd, Nat.reduceSub, Nat.reduceMul, Nat.reduceDiv, Nat.reduceMod, Nat.reducePow, Nat.reduceBEq, Nat.reduceGT, reduceIte, cvn_64 Try.underlying3 Try.underlying94 (show k ≤ 18446744073709551616 by omega), T3, T22, T94, cvi_64 Try.underlying3 Try.underlying94] | simp (disch := first | assumption | omega) only [RV, cvn_64 Try.underlying3 Try.underlying94 (show k ≤ 18446744073709551616 by omega), T3, T22, T94, cvi_64 Try.underlying3 Try.underlying94])) <;> rfl)))
      | (apply R_cond
         · (simp only [RE, Nat.reduceEqDiff, Nat.reduceLT, Nat.reduceLeDiff, Nat.reduceBEq, reduceIte, cvn_64 Try.underlying3 Try.underlying94 (show k ≤ 18446744073709551616 by omega), T3, T22, T94, cvi_64 Try.underlying3 Try.underlying94] <;> rfl))
      | (apply R_grd
         · (simp only [yieldedA, RY, Nat.reduceEqDiff, reduceIte, cvn_64 Try.underlying3 Try.underlying94 (show k ≤ 18446744073709551616 by omega), T3, T22, T94, cvi_64 Try.underlying3 Try.underlying94] <;> rfl)))
    (first | refine ⟨.inr rfl, _, rfl, ?_⟩ | refine ⟨.inl rfl, _, rfl, ?_⟩) <;> simp only [packR, upd_apply, Nat.reduceEqDiff, if_true, if_false, reduceIte]
    have e1 : (BitVec.ofNat 64 (18446744073709551616 - k) &&& 31#64).toNat = 32 - k := by
      rw [BitVec.toNat_and, BitVec.toNat_ofNat, BitVec.toNat_ofNat, show (31 % 2 ^ 64) = 2 ^ 5 - 1 from rfl, Nat.and_two_pow_sub_one_eq_mod, Nat.mod_mod_of_dvd _ (by decide)]
      omega
    have e2 : (32#64 - (BitVec.ofNat 64 (18446744073709551616 - k) &&& 31#64)).toNat = k := by
      rw [BitVec.toNat_sub, e1]
      simp
      omega
    rw [e1, e2, BitVec.rotateRight_def, Nat.mod_eq_of_lt hk, BitVec.or_comm]
  obtain ⟨v, h1, e1, rfl⟩ := this
  exact isoPhi_eq (by first | rfl | simp only [List.all_cons, List.all_nil, closed_agg8, closed_agg32, closed_w8, closed_w32, closed_w64, closed_iv, Bool.and_true]) (by first | rfl | simp only [closed_agg8, closed_agg32]) e1
theorem inl95 : inlOf Try.prog 95 = true := by kernel_rfl
theorem iso95 : isoOf Try.prog 95 = true := by kernel_rfl
set_option maxRecDepth 20000 in
set_option maxHeartbeats 8000000 in
theorem turn95 (n : Nat) (x : BitVec 32) (k : Nat) (hk0 : 0 < k) (hk : k < 32) (h : Heap) : fcall Try.prog (n + 2) (.func (.func 95) #[] #[]) [w32 x, iv k] h = some (.ok (w32 (x.rotateRight k)), h) := by
  rw [fcall_iso inl95 iso95]
  have : ∃ v h1, evF (cfg0 Try.prog) (n + 1 + 1) 95 [w32 x, iv k] ⟨fun _ => none, 0⟩ = some (.ok v, h1) ∧ v = (w32 (x.rotateRight k)) := by
    rw [evF_eq Try.func95 rfl]
    apply evEnd_of_W
    simp only [Try.f95]
    repeat (first
      | refine R_seq ?_ | refine R_region ?_ | refine R_nil ?_ | refine Q_seq ?_ | refine Q_norm ?_ | refine Q_seqr ?_ | refine Q_seqx ?_ | refine Q_bl ?_ | refine Q_blr ?_ | refine Q_blx ?_ | refine Q_blo rfl ?_ | refine R_block ?_ | refine R_skip ?_ | refine R_exit ?_ | refine R_ret ?_ | refine I_true ?_ | refine I_false ?_ | refine N_exit ?_ | refine N_ret ?_
      | (refine R_draw (by kernel_rfl) ?_)
      | ((first | apply R_op | apply R_op0)
         · (first | (simp (maxDischargeDepth := 9) only [RA, Nat.reduceEqDiff, Nat.reduceLT, Nat.reduceLeDiff, Nat.reduceAdd, Nat.reduceSub, Nat.reduceMul, Nat.reduceDiv, Nat.reduceMod, Nat.reducePow, Nat.reduceBEq, Nat.reduceGT, reduceIte, un_neg_iv k (by omega), rotn87 _ x k hk0 hk, T3, T22] <;> rfl) | ((repeat (first | (simp (maxDischargeDepth := 9) only [RA, Nat.reduceEqDiff, Nat.reduceLT, Nat.reduceLeDiff, Nat.reduceAdd, Nat.reduceSub, Nat.reduceMul, Nat.reduceDiv, Nat.reduceMod, Nat.reducePow, Nat.reduceBEq, Nat.reduceGT, reduceIte, un_neg_iv k (by omega), rotn87 _ x k hk0 hk, T3, T22]; done) | simp (maxDischargeDepth := 9) only [RA, Nat.reduceEqDiff, Nat.reduceLT, Nat.reduceLeDiff, Nat.reduceAdd, Nat.reduceSub, Nat.reduceMul, Nat.reduceDiv, Nat.reduceMod, Nat.reducePow, Nat.reduceBEq, Nat.reduceGT, reduceIte, un_neg_iv k (by omega), rotn87 _ x k hk0 hk, T3, T22] | simp (disch := first | assumption | omega) only [RV, un_neg_iv k (by omega), rotn87 _ x k hk0 hk, T3, T22])) <;> rfl)))
      | (apply R_cond
         · (simp only [RE, Nat.reduceEqDiff, Nat.reduceLT, Nat.reduceLeDiff, Nat.reduceBEq, reduceIte, un_neg_iv k (by omega), rotn87 _ x k hk0 hk, T3, T22] <;> rfl))
      | (apply R_grd
         · (simp only [yieldedA, RY, Nat.reduceEqDiff, reduceIte, un_neg_iv k (by omega), rotn87 _ x k hk0 hk, T3, T22] <;> rfl)))
    (first | refine ⟨.inr rfl, _, rfl, ?_⟩ | refine ⟨.inl rfl, _, rfl, ?_⟩) <;> simp only [packR, upd_apply, Nat.reduceEqDiff, if_true, if_false, reduceIte]
  obtain ⟨v, h1, e1, rfl⟩ := this
  exact isoPhi_eq (by first | rfl | simp only [List.all_cons, List.all_nil, closed_agg8, closed_agg32, closed_w8, closed_w32, closed_w64, closed_iv, Bool.and_true]) (by first | rfl | simp only [closed_agg8, closed_agg32]) e1
theorem inl96 : inlOf Try.prog 96 = true := by kernel_rfl
theorem iso96 : isoOf Try.prog 96 = true := by kernel_rfl
set_option maxRecDepth 20000 in
set_option maxHeartbeats 8000000 in
theorem right96 (n : Nat) (x : BitVec 32) (k : Nat) (hk0 : 0 < k) (hk : k < 32) (h : Heap) : fcall Try.prog (n + 1) (.func (.func 96) #[] #[]) [w32 x, iv k] h = some (.ok (w32 (x.rotateRight k)), h) := by
  rw [fcall_iso inl96 iso96]
  have : ∃ v h1, evF (cfg0 Try.prog) (n + 0 + 1) 96 [w32 x, iv k] ⟨fun _ => none, 0⟩ = some (.ok v, h1) ∧ v = (w32 (x.rotateRight k)) := by
    rw [evF_eq Try.func96 rfl]
    apply evEnd_of_W
    simp only [Try.f96]
    repeat (first
      | refine R_seq ?_ | refine R_region ?_ | refine R_nil ?_ | refine Q_seq ?_ | refine Q_norm ?_ | refine Q_seqr ?_ | refine Q_seqx ?_ | refine Q_bl ?_ | refine Q_blr ?_ | refine Q_blx ?_ | refine Q_blo rfl ?_ | refine R_block ?_ | refine R_skip ?_ | refine R_exit ?_ | refine R_ret ?_ | refine I_true ?_ | refine I_false ?_ | refine N_exit ?_ | refine N_ret ?_
      | (refine R_draw (by kernel_rfl) ?_)
      | ((first | apply R_op | apply R_op0)
         · (first | (simp (maxDischargeDepth := 9) only [RA, Nat.reduceEqDiff, Nat.reduceLT, Nat.reduceLeDiff, Nat.reduceAdd, Nat.reduceSub, Nat.reduceMul, Nat.reduceDiv, Nat.reduceMod, Nat.reducePow, Nat.reduceBEq, Nat.reduceGT, reduceIte, iv_sub 32 k (by omega), T3, T22] <;> rfl) | ((repeat (first | (simp (maxDischargeDepth := 9) only [RA, Nat.reduceEqDiff, Nat.reduceLT, Nat.reduceLeDiff, Nat.reduceAdd, Nat.reduceSub, Nat.reduceMul, Nat.reduceDiv, Nat.reduceMod, Nat.reducePow, Nat.reduceBEq, Nat.reduceGT, reduceIte, iv_sub 32 k (by omega), T3, T22]; done) | simp (maxDischargeDepth := 9) only [RA, Nat.reduceEqDiff, Nat.reduceLT, Nat.reduceLeDiff, Nat.reduceAdd, Nat.reduceSub, Nat.reduceMul, Nat.reduceDiv, Nat.reduceMod, Nat.reducePow, Nat.reduceBEq, Nat.reduceGT, reduceIte, iv_sub 32 k (by omega), T3, T22] | simp (disch := first | assumption | omega) only [RV, iv_sub 32 k (by omega), T3, T22])) <;> rfl)))
      | (apply R_cond
         · (simp only [RE, Nat.reduceEqDiff, Nat.reduceLT, Nat.reduceLeDiff, Nat.reduceBEq, reduceIte, iv_sub 32 k (by omega), T3, T22] <;> rfl))
      | (apply R_grd
         · (simp only [yieldedA, RY, Nat.reduceEqDiff, reduceIte, iv_sub 32 k (by omega), T3, T22] <;> rfl)))
    (first | refine ⟨.inr rfl, _, rfl, ?_⟩ | refine ⟨.inl rfl, _, rfl, ?_⟩) <;> simp only [packR, upd_apply, Nat.reduceEqDiff, if_true, if_false, reduceIte]
    rw [BitVec.rotateRight_def, Nat.mod_eq_of_lt hk]
  obtain ⟨v, h1, e1, rfl⟩ := this
  exact isoPhi_eq (by first | rfl | simp only [List.all_cons, List.all_nil, closed_agg8, closed_agg32, closed_w8, closed_w32, closed_w64, closed_iv, Bool.and_true]) (by first | rfl | simp only [closed_agg8, closed_agg32]) e1
theorem closed_aggS (d : Nat) (xs : List (BitVec 32)) : closedV (d + 2) (.agg ⟨b32 xs⟩) = true := closed_b32 d xs
end Go.Proofs.Ytfehhihllenjiaa
