/- The stream's functions: quarters. -/
import Derived.Test.YtfehhihllenjiaaTy
import Derived.Test.YtfehhihllenjiaaProg
import Derived.KernelRfl
set_option linter.all false
namespace Go.Proofs.Ytfehhihllenjiaa
open Go.Proofs
attribute [local irreducible] evOps iter evD evF evC evLoad evStore evAlloc evIndexAddr evIndex evLenB evBox evBin evUn evConvert evExtract evSlice evAppend evCopy Program.underlying

theorem inl87 : inlOf Try.prog 87 = true := by kernel_rfl
theorem iso87 : isoOf Try.prog 87 = true := by kernel_rfl
set_option maxRecDepth 20000 in
set_option maxHeartbeats 8000000 in
theorem rot32 (n : Nat) (x : BitVec 32) (k : Nat) (hk : k < 32) (h : Heap) : fcall Try.prog (n + 1) (.func (.func 87) #[] #[]) [w32 x, iv k] h = some (.ok (w32 (x.rotateLeft k)), h) := by
  rw [fcall_iso inl87 iso87]
  have : ∃ v h1, evF (cfg0 Try.prog) (n + 0 + 1) 87 [w32 x, iv k] ⟨fun _ => none, 0⟩ = some (.ok v, h1) ∧ v = (w32 (x.rotateLeft k)) := by
    rw [evF_eq Try.func87 rfl]
    apply evEnd_of_W
    simp only [Try.f87]
    repeat (first
      | refine R_seq ?_ | refine R_region ?_ | refine R_nil ?_ | refine Q_seq ?_ | refine Q_norm ?_ | refine Q_seqr ?_ | refine Q_seqx ?_ | refine Q_bl ?_ | refine Q_blr ?_ | refine Q_blx ?_ | refine Q_blo rfl ?_ | refine R_block ?_ | refine R_skip ?_ | refine R_exit ?_ | refine R_ret ?_ | refine I_true ?_ | refine I_false ?_ | refine N_exit ?_ | refine N_ret ?_
      | (refine R_draw (by kernel_rfl) ?_)
      | ((first | apply R_op | apply R_op0)
         · ((repeat (first | simp (maxDischargeDepth := 9) only [RA, Nat.reduceEqDiff, Nat.reduceLT, Nat.reduceLeDiff, Nat.reduceAdd, Nat.reduceSub, Nat.reduceMul, Nat.reduceDiv, Nat.reduceMod, Nat.reducePow, Nat.reduceBEq, Nat.reduceGT, reduceIte, cvi_64 Try.underlying3 Try.underlying94, T3, T22, T94] | simp (disch := first | assumption | omega) only [RV])) <;> rfl))
      | (apply R_cond
         · (simp only [RE, Nat.reduceEqDiff, Nat.reduceLT, Nat.reduceLeDiff, Nat.reduceBEq, reduceIte] <;> rfl))
      | (apply R_grd
         · (simp only [yieldedA, RY, Nat.reduceEqDiff, reduceIte] <;> rfl)))
    (first | refine ⟨.inr rfl, _, rfl, ?_⟩ | refine ⟨.inl rfl, _, rfl, ?_⟩) <;> simp only [packR, upd_apply, Nat.reduceEqDiff, if_true, if_false, reduceIte]
    have e1 : (BitVec.ofNat 64 k &&& 31#64).toNat = k := by
      rw [BitVec.toNat_and, BitVec.toNat_ofNat, BitVec.toNat_ofNat, show (31 % 2 ^ 64) = 2 ^ 5 - 1 from rfl, Nat.and_two_pow_sub_one_eq_mod, Nat.mod_mod_of_dvd _ (by decide)]
      omega
    have e2 : (32#64 - (BitVec.ofNat 64 k &&& 31#64)).toNat = 32 - k := by
      rw [BitVec.toNat_sub, e1]
      simp
      omega
    rw [e1, e2, BitVec.rotateLeft_def, Nat.mod_eq_of_lt hk]
  obtain ⟨v, h1, e1, rfl⟩ := this
  exact isoPhi_eq (by first | rfl | simp only [List.all_cons, List.all_nil, closed_agg8, closed_agg32, closed_w8, closed_w32, closed_w64, closed_iv, Bool.and_true]) (by first | rfl | simp only [closed_agg8, closed_agg32]) e1

/-- A quarter of a round. -/
def quarter (a b c d : BitVec 32) : BitVec 32 × BitVec 32 × BitVec 32 × BitVec 32 :=
  let a := a + b
  let d := (d ^^^ a).rotateLeft 16
  let c := c + d
  let b := (b ^^^ c).rotateLeft 12
  let a := a + b
  let d := (d ^^^ a).rotateLeft 8
  let c := c + d
  let b := (b ^^^ c).rotateLeft 7
  (a, b, c, d)
def q4 (x : BitVec 32 × BitVec 32 × BitVec 32 × BitVec 32) : Value := .tuple #[w32 x.1, w32 x.2.1, w32 x.2.2.1, w32 x.2.2.2]

theorem inl41 : inlOf Try.prog 41 = true := by kernel_rfl
theorem iso41 : isoOf Try.prog 41 = true := by kernel_rfl
set_option maxRecDepth 20000 in
set_option maxHeartbeats 8000000 in
theorem quarter_ev (n : Nat) (a b c d : BitVec 32) (h : Heap) : fcall Try.prog (n + 2) (.func (.func 41) #[] #[]) [w32 a, w32 b, w32 c, w32 d] h = some (.ok (q4 (quarter a b c d)), h) := by
  rw [fcall_iso inl41 iso41]
  have : ∃ v h1, evF (cfg0 Try.prog) (n + 1 + 1) 41 [w32 a, w32 b, w32 c, w32 d] ⟨fun _ => none, 0⟩ = some (.ok v, h1) ∧ v = (q4 (quarter a b c d)) := by
    rw [evF_eq Try.func41 rfl]
    apply evEnd_of_W
    simp only [Try.f41]
    repeat (first
      | refine R_seq ?_ | refine R_region ?_ | refine R_nil ?_ | refine Q_seq ?_ | refine Q_norm ?_ | refine Q_seqr ?_ | refine Q_seqx ?_ | refine Q_bl ?_ | refine Q_blr ?_ | refine Q_blx ?_ | refine Q_blo rfl ?_ | refine R_block ?_ | refine R_skip ?_ | refine R_exit ?_ | refine R_ret ?_ | refine I_true ?_ | refine I_false ?_ | refine N_exit ?_ | refine N_ret ?_
      | (refine R_draw (by kernel_rfl) ?_)
      | ((first | apply R_op | apply R_op0)
         · ((repeat (first | simp (maxDischargeDepth := 9) only [RA, Nat.reduceEqDiff, Nat.reduceLT, Nat.reduceLeDiff, Nat.reduceAdd, Nat.reduceSub, Nat.reduceMul, Nat.reduceDiv, Nat.reduceMod, Nat.reducePow, Nat.reduceBEq, Nat.reduceGT, reduceIte, rot32, T3, T22] | simp (disch := first | assumption | omega) only [RV, rot32])) <;> rfl))
      | (apply R_cond
         · (simp only [RE, Nat.reduceEqDiff, Nat.reduceLT, Nat.reduceLeDiff, Nat.reduceBEq, reduceIte] <;> rfl))
      | (apply R_grd
         · (simp only [yieldedA, RY, Nat.reduceEqDiff, reduceIte] <;> rfl))
      | refine R_loop ?_ | refine R_iter (by decide) ?_)
    (first | refine ⟨.inr rfl, _, rfl, ?_⟩ | refine ⟨.inl rfl, _, rfl, ?_⟩) <;> simp only [packR, upd_apply, Nat.reduceEqDiff, if_true, if_false, reduceIte]
    rfl
  obtain ⟨v, h1, e1, rfl⟩ := this
  exact isoPhi_eq (by first | rfl | simp only [List.all_cons, List.all_nil, closed_agg8, closed_agg32, closed_w8, closed_w32, closed_w64, closed_iv, Bool.and_true]) (by first | rfl | simp only [closed_agg8, closed_agg32]) e1

theorem rot_or (x : BitVec 32) (k : Nat) (hk : k < 32) : x <<< k ||| x >>> (32 - k) = x.rotateLeft k := by
  rw [BitVec.rotateLeft_def, Nat.mod_eq_of_lt hk]

theorem inl88 : inlOf Try.prog 88 = true := by kernel_rfl
theorem iso88 : isoOf Try.prog 88 = true := by kernel_rfl
set_option maxRecDepth 20000 in
set_option maxHeartbeats 8000000 in
theorem left88 (n : Nat) (x : BitVec 32) (k : Nat) (hk : k < 32) (h : Heap) : fcall Try.prog (n + 1) (.func (.func 88) #[] #[]) [w32 x, iv k] h = some (.ok (w32 (x.rotateLeft k)), h) := by
  rw [fcall_iso inl88 iso88]
  have : ∃ v h1, evF (cfg0 Try.prog) (n + 0 + 1) 88 [w32 x, iv k] ⟨fun _ => none, 0⟩ = some (.ok v, h1) ∧ v = (w32 (x.rotateLeft k)) := by
    rw [evF_eq Try.func88 rfl]
    apply evEnd_of_W
    simp only [Try.f88]
    repeat (first
      | refine R_seq ?_ | refine R_region ?_ | refine R_nil ?_ | refine Q_seq ?_ | refine Q_norm ?_ | refine Q_seqr ?_ | refine Q_seqx ?_ | refine Q_bl ?_ | refine Q_blr ?_ | refine Q_blx ?_ | refine Q_blo rfl ?_ | refine R_block ?_ | refine R_skip ?_ | refine R_exit ?_ | refine R_ret ?_ | refine I_true ?_ | refine I_false ?_ | refine N_exit ?_ | refine N_ret ?_
      | (refine R_draw (by kernel_rfl) ?_)
      | ((first | apply R_op | apply R_op0)
         · ((repeat (first | simp (maxDischargeDepth := 9) only [RA, Nat.reduceEqDiff, Nat.reduceLT, Nat.reduceLeDiff, Nat.reduceAdd, Nat.reduceSub, Nat.reduceMul, Nat.reduceDiv, Nat.reduceMod, Nat.reducePow, Nat.reduceBEq, Nat.reduceGT, reduceIte, iv_sub 32 k (by omega), T3, T22] | simp (disch := first | assumption | omega) only [RV, iv_sub 32 k (by omega)])) <;> rfl))
      | (apply R_cond
         · (simp only [RE, Nat.reduceEqDiff, Nat.reduceLT, Nat.reduceLeDiff, Nat.reduceBEq, reduceIte] <;> rfl))
      | (apply R_grd
         · (simp only [yieldedA, RY, Nat.reduceEqDiff, reduceIte] <;> rfl)))
    (first | refine ⟨.inr rfl, _, rfl, ?_⟩ | refine ⟨.inl rfl, _, rfl, ?_⟩) <;> simp only [packR, upd_apply, Nat.reduceEqDiff, if_true, if_false, reduceIte]
    rw [rot_or x k hk]
  obtain ⟨v, h1, e1, rfl⟩ := this
  exact isoPhi_eq (by first | rfl | simp only [List.all_cons, List.all_nil, closed_agg8, closed_agg32, closed_w8, closed_w32, closed_w64, closed_iv, Bool.and_true]) (by first | rfl | simp only [closed_agg8, closed_agg32]) e1
theorem inl42 : inlOf Try.prog 42 = true := by kernel_rfl
theorem iso42 : isoOf Try.prog 42 = true := by kernel_rfl
set_option maxRecDepth 20000 in
set_option maxHeartbeats 8000000 in
theorem quarter_ref (n : Nat) (a b c d : BitVec 32) (h : Heap) : fcall Try.prog (n + 2) (.func (.func 42) #[] #[]) [w32 a, w32 b, w32 c, w32 d] h = some (.ok (q4 (quarter a b c d)), h) := by
  rw [fcall_iso inl42 iso42]
  have : ∃ v h1, evF (cfg0 Try.prog) (n + 1 + 1) 42 [w32 a, w32 b, w32 c, w32 d] ⟨fun _ => none, 0⟩ = some (.ok v, h1) ∧ v = (q4 (quarter a b c d)) := by
    rw [evF_eq Try.func42 rfl]
    apply evEnd_of_W
    simp only [Try.f42]
    repeat (first
      | refine R_seq ?_ | refine R_region ?_ | refine R_nil ?_ | refine Q_seq ?_ | refine Q_norm ?_ | refine Q_seqr ?_ | refine Q_seqx ?_ | refine Q_bl ?_ | refine Q_blr ?_ | refine Q_blx ?_ | refine Q_blo rfl ?_ | refine R_block ?_ | refine R_skip ?_ | refine R_exit ?_ | refine R_ret ?_ | refine I_true ?_ | refine I_false ?_ | refine N_exit ?_ | refine N_ret ?_
      | (refine R_draw (by kernel_rfl) ?_)
      | ((first | apply R_op | apply R_op0)
         · ((repeat (first | simp (maxDischargeDepth := 9) only [RA, Nat.reduceEqDiff, Nat.reduceLT, Nat.reduceLeDiff, Nat.reduceAdd, Nat.reduceSub, Nat.reduceMul, Nat.reduceDiv, Nat.reduceMod, Nat.reducePow, Nat.reduceBEq, Nat.reduceGT, reduceIte, left88, T3, T22] | simp (disch := first | assumption | omega) only [RV, left88])) <;> rfl))
      | (apply R_cond
         · (simp only [RE, Nat.reduceEqDiff, Nat.reduceLT, Nat.reduceLeDiff, Nat.reduceBEq, reduceIte] <;> rfl))
      | (apply R_grd
         · (simp only [yieldedA, RY, Nat.reduceEqDiff, reduceIte] <;> rfl))
      | refine R_loop ?_ | refine R_iter (by decide) ?_)
    (first | refine ⟨.inr rfl, _, rfl, ?_⟩ | refine ⟨.inl rfl, _, rfl, ?_⟩) <;> simp only [packR, upd_apply, Nat.reduceEqDiff, if_true, if_false, reduceIte]
    rfl
  obtain ⟨v, h1, e1, rfl⟩ := this
  exact isoPhi_eq (by first | rfl | simp only [List.all_cons, List.all_nil, closed_agg8, closed_agg32, closed_w8, closed_w32, closed_w64, closed_iv, Bool.and_true]) (by first | rfl | simp only [closed_agg8, closed_agg32]) e1
end Go.Proofs.Ytfehhihllenjiaa
