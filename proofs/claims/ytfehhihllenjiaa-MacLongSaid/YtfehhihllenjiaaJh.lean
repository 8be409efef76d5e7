/- Tags: what is alive, and laws. -/
import Derived.Test.YtfehhihllenjiaaJg
set_option linter.all false
namespace Go.Proofs.Ytfehhihllenjiaa
open Go.Proofs
theorem hmac0_0 : (hmacS [] []).getD 0 0#8 = 182#8 := by kernel_rfl
theorem hmac0_1 : (hmacS [] []).getD 1 0#8 = 19#8 := by kernel_rfl
def key1 : List (BitVec 8) := 1#8 :: List.replicate 31 0#8
theorem key1_length : key1.length = 32 := rfl
theorem bu30k : evBuild Try.prog 30 [(0, w8 1#8)] = some (.agg ⟨b8 key1⟩) := by kernel_rfl
section
variable {P : Program} {call : Value → Phi} {e : Env} {h : Heap} {Q : Post} {all : Array Oper} {l : List Oper} {ty : TypeId} {pos : String} {af : Array Edge}
theorem R_cvs {t el : TypeId} {a : Operand} {d b i n c es : Nat} {cs : List Value} (ht : P.underlying t = some (.slice el)) (he : P.underlying el = some (.int .u8)) (ha : ev e a = .slice (some ⟨b, i, none⟩) n c) (ho : h.obj b = some (.row .rw es cs))
    (hw : W (evOps call P all l (upd e d (.slice (some ⟨b, i, none⟩) n c)) h) Q) : W (evOps call P all (⟨some d, .convert t t a, ty, pos, af, none⟩ :: l) e h) Q := by
  refine R_op (v := .slice (some ⟨b, i, none⟩) n c) (h' := h) ?_ hw
  rw [op_convert, ha, cv_same ht he ho]
  rfl
end
attribute [local irreducible] evOps iter evD evF evC evLoad evStore evAlloc evIndexAddr evIndex evLenB evBox evBin evUn evConvert evExtract evSlice evAppend evCopy evNil evBuild evMakeSlice evBuildSlice evBuiltin Program.underlying
attribute [local irreducible] sumS turnB keyS padK hmacS turnR catN expT expO expS key1
theorem inl70 : inlOf Try.prog 70 = true := by kernel_rfl
theorem iso70 : isoOf Try.prog 70 = true := by kernel_rfl
set_option maxRecDepth 20000 in
set_option maxHeartbeats 8000000 in
theorem live70 (n : Nat)  (h : Heap) : fcall Try.prog (n + 11) (.func (.func 70) #[] #[]) [] h = some (.ok (.bool true), h) := by
  rw [fcall_iso inl70 iso70]
  have : ∃ v h1, evF (cfg0 Try.prog) (n + 10 + 1) 70 [] ⟨fun _ => none, 0⟩ = some (.ok v, h1) ∧ v = (.bool true) := by
    rw [evF_eq Try.func70 rfl]
    apply evEnd_of_W
    simp only [Try.f70]
    repeat (first
      | refine R_seq ?_ | refine R_region ?_ | refine R_nil ?_ | refine Q_seq ?_ | refine Q_norm ?_ | refine Q_seqr ?_ | refine Q_seqx ?_ | refine Q_bl ?_ | refine Q_blr ?_ | refine Q_blx ?_ | refine Q_blo rfl ?_ | refine R_block ?_ | refine R_skip ?_ | refine R_exit ?_ | refine R_ret ?_ | refine I_true ?_ | refine I_false ?_ | refine N_exit ?_ | refine N_ret ?_
      | ((first | apply R_op | apply R_op0)
         · (first | (simp (maxDischargeDepth := 9) only [RA, Nat.reduceEqDiff, Nat.reduceLT, Nat.reduceLeDiff, Nat.reduceAdd, Nat.reduceSub, Nat.reduceMul, Nat.reduceDiv, Nat.reduceMod, Nat.reducePow, Nat.reduceBEq, Nat.reduceGT, reduceIte, T1, T3, T5, T30, T38, T66] <;> rfl) | ((repeat (first | (simp (maxDischargeDepth := 9) only [RA, Nat.reduceEqDiff, Nat.reduceLT, Nat.reduceLeDiff, Nat.reduceAdd, Nat.reduceSub, Nat.reduceMul, Nat.reduceDiv, Nat.reduceMod, Nat.reducePow, Nat.reduceBEq, Nat.reduceGT, reduceIte, T1, T3, T5, T30, T38, T66]; done) | simp (maxDischargeDepth := 9) only [RA, Nat.reduceEqDiff, Nat.reduceLT, Nat.reduceLeDiff, Nat.reduceAdd, Nat.reduceSub, Nat.reduceMul, Nat.reduceDiv, Nat.reduceMod, Nat.reducePow, Nat.reduceBEq, Nat.reduceGT, reduceIte, T1, T3, T5, T30, T38, T66] | simp (disch := first | assumption | omega) only [RV, T1, T3, T5, T30, T38, T66])) <;> rfl)))
      | (apply R_cond
         · (simp only [RE, Nat.reduceEqDiff, Nat.reduceLT, Nat.reduceLeDiff, Nat.reduceBEq, reduceIte, T1, T3, T5, T30, T38, T66] <;> rfl))
      | (apply R_grd
         · (simp only [yieldedA, RY, Nat.reduceEqDiff, reduceIte, T1, T3, T5, T30, T38, T66] <;> rfl)))
    refine R_fn ?_ (hmac68 (n + 1) _ (.slice none 0 0) (.slice none 0 0) [] [] .nil .nil (by simp) (by simp)) ?_
    · rfl
    intro v1 h1 ⟨hv1, F1⟩
    subst hv1
    have hl := hmacS_length [] []
    have hp8 := fun (H : Heap) (p : Nat) => puts8 (h := H) (b := p) (es := 1) hl (List.length_replicate (n := 32) (a := 0#8))
    repeat (first
      | refine R_seq ?_ | refine R_region ?_ | refine R_nil ?_ | refine Q_seq ?_ | refine Q_norm ?_ | refine Q_seqr ?_ | refine Q_seqx ?_ | refine Q_bl ?_ | refine Q_blr ?_ | refine Q_blx ?_ | refine Q_blo rfl ?_ | refine R_block ?_ | refine R_skip ?_ | refine R_exit ?_ | refine R_ret ?_ | refine I_true ?_ | refine I_false ?_ | refine N_exit ?_ | refine N_ret ?_
      | ((first | apply R_op | apply R_op0)
         · (first | (simp (maxDischargeDepth := 9) only [RA, Nat.reduceEqDiff, Nat.reduceLT, Nat.reduceLeDiff, Nat.reduceAdd, Nat.reduceSub, Nat.reduceMul, Nat.reduceDiv, Nat.reduceMod, Nat.reducePow, Nat.reduceBEq, Nat.reduceGT, reduceIte, hp8, rep8, hl, bu30k, T1, T3, T5, T30, T38, T66] <;> rfl) | ((repeat (first | (simp (maxDischargeDepth := 9) only [RA, Nat.reduceEqDiff, Nat.reduceLT, Nat.reduceLeDiff, Nat.reduceAdd, Nat.reduceSub, Nat.reduceMul, Nat.reduceDiv, Nat.reduceMod, Nat.reducePow, Nat.reduceBEq, Nat.reduceGT, reduceIte, hp8, rep8, hl, bu30k, T1, T3, T5, T30, T38, T66]; done) | simp (maxDischargeDepth := 9) only [RA, Nat.reduceEqDiff, Nat.reduceLT, Nat.reduceLeDiff, Nat.reduceAdd, Nat.reduceSub, Nat.reduceMul, Nat.reduceDiv, Nat.reduceMod, Nat.reducePow, Nat.reduceBEq, Nat.reduceGT, reduceIte, hp8, rep8, hl, bu30k, T1, T3, T5, T30, T38, T66] | simp (disch := first | assumption | omega) only [RV, hp8, rep8, hl, bu30k, T1, T3, T5, T30, T38, T66])) <;> rfl)))
      | (apply R_cond
         · (simp only [RE, Nat.reduceEqDiff, Nat.reduceLT, Nat.reduceLeDiff, Nat.reduceBEq, reduceIte, hp8, rep8, hl, bu30k, T1, T3, T5, T30, T38, T66] <;> rfl))
      | (apply R_grd
         · (simp only [yieldedA, RY, Nat.reduceEqDiff, reduceIte, hp8, rep8, hl, bu30k, T1, T3, T5, T30, T38, T66] <;> rfl)))
    refine R_cvs Try.underlying38 Try.underlying5 (b := h1.nx + 1) (i := 0) (n := 1) (c := 1) (es := 1) (cs := [w8 120#8]) (by first | rfl | (first | rw [ev_tmp] | rw [ev_const] | skip) <;> simp only [upd_apply, Nat.reduceEqDiff, if_true, if_false, reduceIte, lit_iv, lit_w8]) (by simp only [RH]) ?_
    repeat (first
      | refine R_seq ?_ | refine R_region ?_ | refine R_nil ?_ | refine Q_seq ?_ | refine Q_norm ?_ | refine Q_seqr ?_ | refine Q_seqx ?_ | refine Q_bl ?_ | refine Q_blr ?_ | refine Q_blx ?_ | refine Q_blo rfl ?_ | refine R_block ?_ | refine R_skip ?_ | refine R_exit ?_ | refine R_ret ?_ | refine I_true ?_ | refine I_false ?_ | refine N_exit ?_ | refine N_ret ?_
      | ((first | apply R_op | apply R_op0)
         · (first | (simp (maxDischargeDepth := 9) only [RA, Nat.reduceEqDiff, Nat.reduceLT, Nat.reduceLeDiff, Nat.reduceAdd, Nat.reduceSub, Nat.reduceMul, Nat.reduceDiv, Nat.reduceMod, Nat.reducePow, Nat.reduceBEq, Nat.reduceGT, reduceIte, T1, T3, T5, T30, T38, T66] <;> rfl) | ((repeat (first | (simp (maxDischargeDepth := 9) only [RA, Nat.reduceEqDiff, Nat.reduceLT, Nat.reduceLeDiff, Nat.reduceAdd, Nat.reduceSub, Nat.reduceMul, Nat.reduceDiv, Nat.reduceMod, Nat.reducePow, Nat.reduceBEq, Nat.reduceGT, reduceIte, T1, T3, T5, T30, T38, T66]; done) | simp (maxDischargeDepth := 9) only [RA, Nat.reduceEqDiff, Nat.reduceLT, Nat.reduceLeDiff, Nat.reduceAdd, Nat.reduceSub, Nat.reduceMul, Nat.reduceDiv, Nat.reduceMod, Nat.reducePow, Nat.reduceBEq, Nat.reduceGT, reduceIte, T1, T3, T5, T30, T38, T66] | simp (disch := first | assumption | omega) only [RV, T1, T3, T5, T30, T38, T66])) <;> rfl)))
      | (apply R_cond
         · (simp only [RE, Nat.reduceEqDiff, Nat.reduceLT, Nat.reduceLeDiff, Nat.reduceBEq, reduceIte, T1, T3, T5, T30, T38, T66] <;> rfl))
      | (apply R_grd
         · (simp only [yieldedA, RY, Nat.reduceEqDiff, reduceIte, T1, T3, T5, T30, T38, T66] <;> rfl)))
    refine R_fn ?_ (exp72 n _ key1 (.slice (some ⟨h1.nx + 1, 0, none⟩) 1 1) [120#8] 40 key1_length (by_row (k := .rw) (by simp only [RH]; omega) (by simp only [RH]; rfl) (Nat.le_refl _) rfl) (by simp) (by decide)) ?_
    · rfl
    intro v2 h2 ⟨⟨v3, hv2, b3⟩, F2⟩
    subst hv2
    have hel := expS_length key1 [120#8] 40
    have l3 := S38len b3
    rw [hel] at l3
    have n1 := F1.1
    have hF2 := F2.2 h1.nx (by simp only [RH]; omega)
    simp only [RH] at hF2
    repeat (first
      | refine R_seq ?_ | refine R_region ?_ | refine R_nil ?_ | refine Q_seq ?_ | refine Q_norm ?_ | refine Q_seqr ?_ | refine Q_seqx ?_ | refine Q_bl ?_ | refine Q_blr ?_ | refine Q_blx ?_ | refine Q_blo rfl ?_ | refine R_block ?_ | refine R_skip ?_ | refine R_exit ?_ | refine R_ret ?_ | refine I_true ?_ | refine I_false ?_ | refine N_exit ?_ | refine N_ret ?_
      | ((first | apply R_op | apply R_op0)
         · (first | (simp (maxDischargeDepth := 9) only [RA, Nat.reduceEqDiff, Nat.reduceLT, Nat.reduceLeDiff, Nat.reduceAdd, Nat.reduceSub, Nat.reduceMul, Nat.reduceDiv, Nat.reduceMod, Nat.reducePow, Nat.reduceBEq, Nat.reduceGT, reduceIte, hp8, rep8, hl, l3, hmac0_0, hmac0_1, hF2, T1, T3, T5, T30, T38, T66] <;> rfl) | ((repeat (first | (simp (maxDischargeDepth := 9) only [RA, Nat.reduceEqDiff, Nat.reduceLT, Nat.reduceLeDiff, Nat.reduceAdd, Nat.reduceSub, Nat.reduceMul, Nat.reduceDiv, Nat.reduceMod, Nat.reducePow, Nat.reduceBEq, Nat.reduceGT, reduceIte, hp8, rep8, hl, l3, hmac0_0, hmac0_1, hF2, T1, T3, T5, T30, T38, T66]; done) | simp (maxDischargeDepth := 9) only [RA, Nat.reduceEqDiff, Nat.reduceLT, Nat.reduceLeDiff, Nat.reduceAdd, Nat.reduceSub, Nat.reduceMul, Nat.reduceDiv, Nat.reduceMod, Nat.reducePow, Nat.reduceBEq, Nat.reduceGT, reduceIte, hp8, rep8, hl, l3, hmac0_0, hmac0_1, hF2, T1, T3, T5, T30, T38, T66] | simp (disch := first | assumption | omega) only [RV, hp8, rep8, hl, l3, hmac0_0, hmac0_1, hF2, T1, T3, T5, T30, T38, T66])) <;> rfl)))
      | (apply R_cond
         · (simp only [RE, Nat.reduceEqDiff, Nat.reduceLT, Nat.reduceLeDiff, Nat.reduceBEq, reduceIte, hp8, rep8, hl, l3, hmac0_0, hmac0_1, hF2, T1, T3, T5, T30, T38, T66] <;> rfl))
      | (apply R_grd
         · (simp only [yieldedA, RY, Nat.reduceEqDiff, reduceIte, hp8, rep8, hl, l3, hmac0_0, hmac0_1, hF2, T1, T3, T5, T30, T38, T66] <;> rfl)))
    have b1a : By (newRowH (newRowH h2 .rw 1 [w8 1#8]) .rw 1 [w8 1#8]) (.slice (some ⟨h2.nx, 0, none⟩) 1 1) [1#8] := by_row (k := .rw) (by simp only [RH]; omega) (by simp [RH]; rfl) (Nat.le_refl _) rfl
    have b1b : By (newRowH (newRowH h2 .rw 1 [w8 1#8]) .rw 1 [w8 1#8]) (.slice (some ⟨h2.nx + 1, 0, none⟩) 1 1) [1#8] := by_row (k := .rw) (by simp only [RH]; omega) (by simp [RH]; rfl) (Nat.le_refl _) rfl
    refine R_fn ?_ (equal73 (n + 9) _ _ _ [1#8] [1#8] b1a b1b (by simp) (by simp)) ?_
    · rfl
    intro v4 h4 ⟨hv4, F4⟩
    subst hv4
    repeat (first
      | refine R_seq ?_ | refine R_region ?_ | refine R_nil ?_ | refine Q_seq ?_ | refine Q_norm ?_ | refine Q_seqr ?_ | refine Q_seqx ?_ | refine Q_bl ?_ | refine Q_blr ?_ | refine Q_blx ?_ | refine Q_blo rfl ?_ | refine R_block ?_ | refine R_skip ?_ | refine R_exit ?_ | refine R_ret ?_ | refine I_true ?_ | refine I_false ?_ | refine N_exit ?_ | refine N_ret ?_
      | ((first | apply R_op | apply R_op0)
         · (first | (simp (maxDischargeDepth := 9) only [RA, Nat.reduceEqDiff, Nat.reduceLT, Nat.reduceLeDiff, Nat.reduceAdd, Nat.reduceSub, Nat.reduceMul, Nat.reduceDiv, Nat.reduceMod, Nat.reducePow, Nat.reduceBEq, Nat.reduceGT, reduceIte, T1, T3, T5, T30, T38, T66] <;> rfl) | ((repeat (first | (simp (maxDischargeDepth := 9) only [RA, Nat.reduceEqDiff, Nat.reduceLT, Nat.reduceLeDiff, Nat.reduceAdd, Nat.reduceSub, Nat.reduceMul, Nat.reduceDiv, Nat.reduceMod, Nat.reducePow, Nat.reduceBEq, Nat.reduceGT, reduceIte, T1, T3, T5, T30, T38, T66]; done) | simp (maxDischargeDepth := 9) only [RA, Nat.reduceEqDiff, Nat.reduceLT, Nat.reduceLeDiff, Nat.reduceAdd, Nat.reduceSub, Nat.reduceMul, Nat.reduceDiv, Nat.reduceMod, Nat.reducePow, Nat.reduceBEq, Nat.reduceGT, reduceIte, T1, T3, T5, T30, T38, T66] | simp (disch := first | assumption | omega) only [RV, T1, T3, T5, T30, T38, T66])) <;> rfl)))
      | (apply R_cond
         · (simp only [RE, Nat.reduceEqDiff, Nat.reduceLT, Nat.reduceLeDiff, Nat.reduceBEq, reduceIte, T1, T3, T5, T30, T38, T66] <;> rfl))
      | (apply R_grd
         · (simp only [yieldedA, RY, Nat.reduceEqDiff, reduceIte, T1, T3, T5, T30, T38, T66] <;> rfl)))
    (first | refine ⟨.inr rfl, _, rfl, ?_⟩ | refine ⟨.inl rfl, _, rfl, ?_⟩) <;> simp only [packR, upd_apply, Nat.reduceEqDiff, if_true, if_false, reduceIte]
  obtain ⟨v, h1, e1, rfl⟩ := this
  exact isoPhi_eq (by first | rfl | simp only [List.all_cons, List.all_nil, closed_agg8, closed_agg32, closed_w8, closed_w32, closed_w64, closed_iv, Bool.and_true]) (by first | rfl | simp only [closed_agg8, closed_agg32]) e1
end Go.Proofs.Ytfehhihllenjiaa
