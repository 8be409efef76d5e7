/- The statements of the digest. -/
import Derived.Test.YtfehhihllenjiaaHh
set_option linter.all false
namespace Go.Proofs.Ytfehhihllenjiaa
open Go.Proofs
theorem eqg30 : Try.prog.eqGuardType Try.prog.depth 30 = false := by kernel_rfl
theorem beq30 {l : Bool} {xs ys : List (BitVec 8)} (hx : xs.length = 32) (hy : ys.length = 32) : evBin Try.prog .eql 30 l (.agg ⟨b8 xs⟩) (.agg ⟨b8 ys⟩) = some (.bool (decide (xs = ys))) := by
  have h := fun m => eq_row (f := w8) 0#8 Try.underlying30 Try.underlying5 rfl inf5 rfl (fun m x y => eq_w8 Try.underlying5 m x y) hx hy m
  have e1 : eqOk Try.prog 30 l (.agg ⟨b8 xs⟩) (.agg ⟨b8 ys⟩) = true := by
    show (!Try.prog.eqGuardType Try.prog.depth 30) = true
    rw [eqg30]; rfl
  simp only [evBin, e1, if_true]
  have e2 : evEq Try.prog Op.maxDepth 30 (.agg ⟨b8 xs⟩) (.agg ⟨b8 ys⟩) = some (decide (xs = ys)) := h (Op.maxDepth - 2)
  rw [e2]; rfl
theorem eqg47 : Try.prog.eqGuardType Try.prog.depth 47 = false := by kernel_rfl
theorem beq47 {l : Bool} {xs ys : List (BitVec 32)} (hx : xs.length = 8) (hy : ys.length = 8) : evBin Try.prog .eql 47 l (.agg ⟨b32 xs⟩) (.agg ⟨b32 ys⟩) = some (.bool (decide (xs = ys))) := by
  have h := fun m => eq_row (f := w32) 0#32 Try.underlying47 Try.underlying22 rfl inf22 rfl (fun m x y => eq_w32 Try.underlying22 m x y) hx hy m
  have e1 : eqOk Try.prog 47 l (.agg ⟨b32 xs⟩) (.agg ⟨b32 ys⟩) = true := by
    show (!Try.prog.eqGuardType Try.prog.depth 47) = true
    rw [eqg47]; rfl
  simp only [evBin, e1, if_true]
  have e2 : evEq Try.prog Op.maxDepth 47 (.agg ⟨b32 xs⟩) (.agg ⟨b32 ys⟩) = some (decide (xs = ys)) := h (Op.maxDepth - 2)
  rw [e2]; rfl
theorem eqg48 : Try.prog.eqGuardType Try.prog.depth 48 = false := by kernel_rfl
theorem beq48 {l : Bool} {xs ys : List (BitVec 32)} (hx : xs.length = 8) (hy : ys.length = 8) : evBin Try.prog .eql 48 l (.agg ⟨b32 xs⟩) (.agg ⟨b32 ys⟩) = some (.bool (decide (xs = ys))) := by
  have h := fun m => eq_row (f := w32) 0#32 Try.underlying48 Try.underlying22 rfl inf22 rfl (fun m x y => eq_w32 Try.underlying22 m x y) hx hy m
  have e1 : eqOk Try.prog 48 l (.agg ⟨b32 xs⟩) (.agg ⟨b32 ys⟩) = true := by
    show (!Try.prog.eqGuardType Try.prog.depth 48) = true
    rw [eqg48]; rfl
  simp only [evBin, e1, if_true]
  have e2 : evEq Try.prog Op.maxDepth 48 (.agg ⟨b32 xs⟩) (.agg ⟨b32 ys⟩) = some (decide (xs = ys)) := h (Op.maxDepth - 2)
  rw [e2]; rfl
theorem eqg57 : Try.prog.eqGuardType Try.prog.depth 57 = false := by kernel_rfl
theorem beq57 {l : Bool} {xs ys : List (BitVec 8)} (hx : xs.length = 16) (hy : ys.length = 16) : evBin Try.prog .eql 57 l (.agg ⟨b8 xs⟩) (.agg ⟨b8 ys⟩) = some (.bool (decide (xs = ys))) := by
  have h := fun m => eq_row (f := w8) 0#8 Try.underlying57 Try.underlying5 rfl inf5 rfl (fun m x y => eq_w8 Try.underlying5 m x y) hx hy m
  have e1 : eqOk Try.prog 57 l (.agg ⟨b8 xs⟩) (.agg ⟨b8 ys⟩) = true := by
    show (!Try.prog.eqGuardType Try.prog.depth 57) = true
    rw [eqg57]; rfl
  simp only [evBin, e1, if_true]
  have e2 : evEq Try.prog Op.maxDepth 57 (.agg ⟨b8 xs⟩) (.agg ⟨b8 ys⟩) = some (decide (xs = ys)) := h (Op.maxDepth - 2)
  rw [e2]; rfl
theorem eqg56 : Try.prog.eqGuardType Try.prog.depth 56 = false := by kernel_rfl
theorem beq56 {l : Bool} {xs ys : List (BitVec 8)} (hx : xs.length = 16) (hy : ys.length = 16) : evBin Try.prog .eql 56 l (.agg ⟨b8 xs⟩) (.agg ⟨b8 ys⟩) = some (.bool (decide (xs = ys))) := by
  have h := fun m => eq_row (f := w8) 0#8 Try.underlying56 Try.underlying5 rfl inf5 rfl (fun m x y => eq_w8 Try.underlying5 m x y) hx hy m
  have e1 : eqOk Try.prog 56 l (.agg ⟨b8 xs⟩) (.agg ⟨b8 ys⟩) = true := by
    show (!Try.prog.eqGuardType Try.prog.depth 56) = true
    rw [eqg56]; rfl
  simp only [evBin, e1, if_true]
  have e2 : evEq Try.prog Op.maxDepth 56 (.agg ⟨b8 xs⟩) (.agg ⟨b8 ys⟩) = some (decide (xs = ys)) := h (Op.maxDepth - 2)
  rw [e2]; rfl

theorem sumS_length (b : List (BitVec 8)) : (sumS b).length = 32 := by simp [sumS, outS]
theorem sum0_0 : (sumS []).getD 0 0#8 = 227#8 := by kernel_rfl
theorem sum0_1 : (sumS []).getD 1 0#8 = 176#8 := by kernel_rfl
theorem sum0_31 : (sumS []).getD 31 0#8 = 85#8 := by kernel_rfl
theorem start0 : start.l.getD 0 0#32 = 1779033703#32 := rfl
theorem pad0 : padN ([] : List (BitVec 8)).length = 64 := rfl
attribute [local irreducible] evOps iter evD evF evC evLoad evStore evAlloc evIndexAddr evIndex evLenB evBox evBin evUn evConvert evExtract evSlice evAppend evCopy evNil evBuild evMakeSlice evBuildSlice evBuiltin Program.underlying
attribute [local irreducible] padS padN St.l stAt shaStep outB outS filled blk sumS start
theorem inl51 : inlOf Try.prog 51 = true := by kernel_rfl
theorem iso51 : isoOf Try.prog 51 = true := by kernel_rfl
set_option maxRecDepth 20000 in
set_option maxHeartbeats 8000000 in
theorem live51 (n : Nat)  (h : Heap) : fcall Try.prog (n + 8) (.func (.func 51) #[] #[]) [] h = some (.ok (.bool true), h) := by
  rw [fcall_iso inl51 iso51]
  have : ∃ v h1, evF (cfg0 Try.prog) (n + 7 + 1) 51 [] ⟨fun _ => none, 0⟩ = some (.ok v, h1) ∧ v = (.bool true) := by
    rw [evF_eq Try.func51 rfl]
    apply evEnd_of_W
    simp only [Try.f51]
    repeat (first
      | refine R_seq ?_ | refine R_region ?_ | refine R_nil ?_ | refine Q_seq ?_ | refine Q_norm ?_ | refine Q_seqr ?_ | refine Q_seqx ?_ | refine Q_bl ?_ | refine Q_blr ?_ | refine Q_blx ?_ | refine Q_blo rfl ?_ | refine R_block ?_ | refine R_skip ?_ | refine R_exit ?_ | refine R_ret ?_ | refine I_true ?_ | refine I_false ?_ | refine N_exit ?_ | refine N_ret ?_
      | (refine R_draw (by kernel_rfl) ?_)
      | ((first | apply R_op | apply R_op0)
         · (first | (simp (maxDischargeDepth := 9) only [RA, Nat.reduceEqDiff, Nat.reduceLT, Nat.reduceLeDiff, Nat.reduceAdd, Nat.reduceSub, Nat.reduceMul, Nat.reduceDiv, Nat.reduceMod, Nat.reducePow, Nat.reduceBEq, Nat.reduceGT, reduceIte, T3, T5, T22, T30, T38, T48] <;> rfl) | ((repeat (first | (simp (maxDischargeDepth := 9) only [RA, Nat.reduceEqDiff, Nat.reduceLT, Nat.reduceLeDiff, Nat.reduceAdd, Nat.reduceSub, Nat.reduceMul, Nat.reduceDiv, Nat.reduceMod, Nat.reducePow, Nat.reduceBEq, Nat.reduceGT, reduceIte, T3, T5, T22, T30, T38, T48]; done) | simp (maxDischargeDepth := 9) only [RA, Nat.reduceEqDiff, Nat.reduceLT, Nat.reduceLeDiff, Nat.reduceAdd, Nat.reduceSub, Nat.reduceMul, Nat.reduceDiv, Nat.reduceMod, Nat.reducePow, Nat.reduceBEq, Nat.reduceGT, reduceIte, T3, T5, T22, T30, T38, T48] | simp (disch := first | assumption | omega) only [RV, T3, T5, T22, T30, T38, T48])) <;> rfl)))
      | (apply R_cond
         · (simp only [RE, Nat.reduceEqDiff, Nat.reduceLT, Nat.reduceLeDiff, Nat.reduceBEq, reduceIte, T3, T5, T22, T30, T38, T48] <;> rfl))
      | (apply R_grd
         · (simp only [yieldedA, RY, Nat.reduceEqDiff, reduceIte, T3, T5, T22, T30, T38, T48] <;> rfl)))
    refine R_fn ?_ (sum52 n _ (.slice none 0 0) [] .nil (by simp)) ?_
    · rfl
    intro v1 h1 ⟨hv1, F1⟩
    subst hv1
    have hl := sumS_length []
    have hp8 := fun (H : Heap) (p : Nat) => puts8 (h := H) (b := p) (es := 1) hl (List.length_replicate (n := 32) (a := 0#8))
    repeat (first
      | refine R_seq ?_ | refine R_region ?_ | refine R_nil ?_ | refine Q_seq ?_ | refine Q_norm ?_ | refine Q_seqr ?_ | refine Q_seqx ?_ | refine Q_bl ?_ | refine Q_blr ?_ | refine Q_blx ?_ | refine Q_blo rfl ?_ | refine R_block ?_ | refine R_skip ?_ | refine R_exit ?_ | refine R_ret ?_ | refine I_true ?_ | refine I_false ?_ | refine N_exit ?_ | refine N_ret ?_
      | ((first | apply R_op | apply R_op0)
         · (first | (simp (maxDischargeDepth := 9) only [RA, Nat.reduceEqDiff, Nat.reduceLT, Nat.reduceLeDiff, Nat.reduceAdd, Nat.reduceSub, Nat.reduceMul, Nat.reduceDiv, Nat.reduceMod, Nat.reducePow, Nat.reduceBEq, Nat.reduceGT, reduceIte, hp8, rep8, hl, sum0_0, sum0_1, sum0_31, T3, T5, T22, T30, T38, T48] <;> rfl) | ((repeat (first | (simp (maxDischargeDepth := 9) only [RA, Nat.reduceEqDiff, Nat.reduceLT, Nat.reduceLeDiff, Nat.reduceAdd, Nat.reduceSub, Nat.reduceMul, Nat.reduceDiv, Nat.reduceMod, Nat.reducePow, Nat.reduceBEq, Nat.reduceGT, reduceIte, hp8, rep8, hl, sum0_0, sum0_1, sum0_31, T3, T5, T22, T30, T38, T48]; done) | simp (maxDischargeDepth := 9) only [RA, Nat.reduceEqDiff, Nat.reduceLT, Nat.reduceLeDiff, Nat.reduceAdd, Nat.reduceSub, Nat.reduceMul, Nat.reduceDiv, Nat.reduceMod, Nat.reducePow, Nat.reduceBEq, Nat.reduceGT, reduceIte, hp8, rep8, hl, sum0_0, sum0_1, sum0_31, T3, T5, T22, T30, T38, T48] | simp (disch := first | assumption | omega) only [RV, hp8, rep8, hl, sum0_0, sum0_1, sum0_31, T3, T5, T22, T30, T38, T48])) <;> rfl)))
      | (apply R_cond
         · (simp only [RE, Nat.reduceEqDiff, Nat.reduceLT, Nat.reduceLeDiff, Nat.reduceBEq, reduceIte, hp8, rep8, hl, sum0_0, sum0_1, sum0_31, T3, T5, T22, T30, T38, T48] <;> rfl))
      | (apply R_grd
         · (simp only [yieldedA, RY, Nat.reduceEqDiff, reduceIte, hp8, rep8, hl, sum0_0, sum0_1, sum0_31, T3, T5, T22, T30, T38, T48] <;> rfl)))
    refine R_fn ?_ (pad54 (n + 6) _ (.slice none 0 0) [] .nil (by simp)) ?_
    · rfl
    intro v2 h2 ⟨own2, F2⟩
    have e18 := S38len own2.sl
    rw [padS_length, pad0] at e18
    repeat (first
      | refine R_seq ?_ | refine R_region ?_ | refine R_nil ?_ | refine Q_seq ?_ | refine Q_norm ?_ | refine Q_seqr ?_ | refine Q_seqx ?_ | refine Q_bl ?_ | refine Q_blr ?_ | refine Q_blx ?_ | refine Q_blo rfl ?_ | refine R_block ?_ | refine R_skip ?_ | refine R_exit ?_ | refine R_ret ?_ | refine I_true ?_ | refine I_false ?_ | refine N_exit ?_ | refine N_ret ?_
      | ((first | apply R_op | apply R_op0)
         · (first | (simp (maxDischargeDepth := 9) only [RA, Nat.reduceEqDiff, Nat.reduceLT, Nat.reduceLeDiff, Nat.reduceAdd, Nat.reduceSub, Nat.reduceMul, Nat.reduceDiv, Nat.reduceMod, Nat.reducePow, Nat.reduceBEq, Nat.reduceGT, reduceIte, e18, start56 (n + 6), idx32 (Nat.lt_of_lt_of_eq (by decide : 0 < 8) (St.l_length start).symm), start0, T3, T5, T22, T30, T38, T48] <;> rfl) | ((repeat (first | (simp (maxDischargeDepth := 9) only [RA, Nat.reduceEqDiff, Nat.reduceLT, Nat.reduceLeDiff, Nat.reduceAdd, Nat.reduceSub, Nat.reduceMul, Nat.reduceDiv, Nat.reduceMod, Nat.reducePow, Nat.reduceBEq, Nat.reduceGT, reduceIte, e18, start56 (n + 6), idx32 (Nat.lt_of_lt_of_eq (by decide : 0 < 8) (St.l_length start).symm), start0, T3, T5, T22, T30, T38, T48]; done) | simp (maxDischargeDepth := 9) only [RA, Nat.reduceEqDiff, Nat.reduceLT, Nat.reduceLeDiff, Nat.reduceAdd, Nat.reduceSub, Nat.reduceMul, Nat.reduceDiv, Nat.reduceMod, Nat.reducePow, Nat.reduceBEq, Nat.reduceGT, reduceIte, e18, start56 (n + 6), idx32 (Nat.lt_of_lt_of_eq (by decide : 0 < 8) (St.l_length start).symm), start0, T3, T5, T22, T30, T38, T48] | simp (disch := first | assumption | omega) only [RV, e18, start56 (n + 6), idx32 (Nat.lt_of_lt_of_eq (by decide : 0 < 8) (St.l_length start).symm), start0, T3, T5, T22, T30, T38, T48])) <;> rfl)))
      | (apply R_cond
         · (simp only [RE, Nat.reduceEqDiff, Nat.reduceLT, Nat.reduceLeDiff, Nat.reduceBEq, reduceIte, e18, start56 (n + 6), idx32 (Nat.lt_of_lt_of_eq (by decide : 0 < 8) (St.l_length start).symm), start0, T3, T5, T22, T30, T38, T48] <;> rfl))
      | (apply R_grd
         · (simp only [yieldedA, RY, Nat.reduceEqDiff, reduceIte, e18, start56 (n + 6), idx32 (Nat.lt_of_lt_of_eq (by decide : 0 < 8) (St.l_length start).symm), start0, T3, T5, T22, T30, T38, T48] <;> rfl)))
    (first | refine ⟨.inr rfl, _, rfl, ?_⟩ | refine ⟨.inl rfl, _, rfl, ?_⟩) <;> simp only [packR, upd_apply, Nat.reduceEqDiff, if_true, if_false, reduceIte]
  obtain ⟨v, h1, e1, rfl⟩ := this
  exact isoPhi_eq (by first | rfl | simp only [List.all_cons, List.all_nil, closed_agg8, closed_agg32, closed_w8, closed_w32, closed_w64, closed_iv, Bool.and_true]) (by first | rfl | simp only [closed_agg8, closed_agg32]) e1
set_option maxRecDepth 20000 in
set_option maxHeartbeats 8000000 in
theorem law10 (h : Heap) (v : Value) (b : List (BitVec 8)) (hb : By h v b) : ∃ v1 h1, evF (cfg0 Try.prog) 12 10 [v] h = some (.ok v1, h1) ∧ v1 = .bool true := by
  rw [evF_eq Try.func10 rfl]
  apply evEnd_of_W
  simp only [Try.f10]
  obtain ⟨v2, e2, b2, r2⟩ := few50 10 _ v b 600 hb
  repeat (first
    | refine R_seq ?_ | refine R_region ?_ | refine R_nil ?_ | refine Q_seq ?_ | refine Q_norm ?_ | refine Q_seqr ?_ | refine Q_seqx ?_ | refine Q_bl ?_ | refine Q_blr ?_ | refine Q_blx ?_ | refine Q_blo rfl ?_ | refine R_block ?_ | refine R_skip ?_ | refine R_exit ?_ | refine R_ret ?_ | refine I_true ?_ | refine I_false ?_ | refine N_exit ?_ | refine N_ret ?_
    | (refine R_draw (by kernel_rfl) ?_)
    | ((first | apply R_op | apply R_op0)
       · (first | (simp (maxDischargeDepth := 9) only [RA, Nat.reduceEqDiff, Nat.reduceLT, Nat.reduceLeDiff, Nat.reduceAdd, Nat.reduceSub, Nat.reduceMul, Nat.reduceDiv, Nat.reduceMod, Nat.reducePow, Nat.reduceBEq, Nat.reduceGT, reduceIte, e2, T3, T9, T30, T38] <;> rfl) | ((repeat (first | (simp (maxDischargeDepth := 9) only [RA, Nat.reduceEqDiff, Nat.reduceLT, Nat.reduceLeDiff, Nat.reduceAdd, Nat.reduceSub, Nat.reduceMul, Nat.reduceDiv, Nat.reduceMod, Nat.reducePow, Nat.reduceBEq, Nat.reduceGT, reduceIte, e2, T3, T9, T30, T38]; done) | simp (maxDischargeDepth := 9) only [RA, Nat.reduceEqDiff, Nat.reduceLT, Nat.reduceLeDiff, Nat.reduceAdd, Nat.reduceSub, Nat.reduceMul, Nat.reduceDiv, Nat.reduceMod, Nat.reducePow, Nat.reduceBEq, Nat.reduceGT, reduceIte, e2, T3, T9, T30, T38] | simp (disch := first | assumption | omega) only [RV, e2, T3, T9, T30, T38])) <;> rfl)))
    | (apply R_cond
       · (simp only [RE, Nat.reduceEqDiff, Nat.reduceLT, Nat.reduceLeDiff, Nat.reduceBEq, reduceIte, e2, T3, T9, T30, T38] <;> rfl))
    | (apply R_grd
       · (simp only [yieldedA, RY, Nat.reduceEqDiff, reduceIte, e2, T3, T9, T30, T38] <;> rfl)))
  have hbl : (b.take 600).length ≤ 600 := by simp; omega
  generalize b.take 600 = b at b2 hbl
  refine R_app E38 Try.underlying38 (v := emptyS) (w := v2) (lo := h.nx) (xs := []) (ys := b) ?_ ?_ .empty b2 (Nat.le_refl _) (by simp; omega) ?_
  · first | rfl | (first | rw [ev_tmp] | rw [ev_const] | skip) <;> simp only [upd_apply, Nat.reduceEqDiff, if_true, if_false, reduceIte, lit_iv, lit_w8]
  · first | rfl | (first | rw [ev_tmp] | rw [ev_const] | skip) <;> simp only [upd_apply, Nat.reduceEqDiff, if_true, if_false, reduceIte, lit_iv, lit_w8]
  intro v3 h3 own3 wt3
  rw [List.nil_append] at own3
  have F3 : Fr h.nx h h3 := wt3.fr (Nat.le_refl _) (fun r hr => by simp [rowsOfV, emptyS] at hr)
  have b23 : By h3 v2 b := b2.fr0 F3
  repeat (first
    | refine R_seq ?_ | refine R_region ?_ | refine R_nil ?_ | refine Q_seq ?_ | refine Q_norm ?_ | refine Q_seqr ?_ | refine Q_seqx ?_ | refine Q_bl ?_ | refine Q_blr ?_ | refine Q_blx ?_ | refine Q_blo rfl ?_ | refine R_block ?_ | refine R_skip ?_ | refine R_exit ?_ | refine R_ret ?_ | refine I_true ?_ | refine I_false ?_ | refine N_exit ?_ | refine N_ret ?_
    | (refine R_draw (by kernel_rfl) ?_)
    | ((first | apply R_op | apply R_op0)
       · (first | (simp (maxDischargeDepth := 9) only [RA, Nat.reduceEqDiff, Nat.reduceLT, Nat.reduceLeDiff, Nat.reduceAdd, Nat.reduceSub, Nat.reduceMul, Nat.reduceDiv, Nat.reduceMod, Nat.reducePow, Nat.reduceBEq, Nat.reduceGT, reduceIte, live51 3, T3, T9, T30, T38] <;> rfl) | ((repeat (first | (simp (maxDischargeDepth := 9) only [RA, Nat.reduceEqDiff, Nat.reduceLT, Nat.reduceLeDiff, Nat.reduceAdd, Nat.reduceSub, Nat.reduceMul, Nat.reduceDiv, Nat.reduceMod, Nat.reducePow, Nat.reduceBEq, Nat.reduceGT, reduceIte, live51 3, T3, T9, T30, T38]; done) | simp (maxDischargeDepth := 9) only [RA, Nat.reduceEqDiff, Nat.reduceLT, Nat.reduceLeDiff, Nat.reduceAdd, Nat.reduceSub, Nat.reduceMul, Nat.reduceDiv, Nat.reduceMod, Nat.reducePow, Nat.reduceBEq, Nat.reduceGT, reduceIte, live51 3, T3, T9, T30, T38] | simp (disch := first | assumption | omega) only [RV, live51 3, T3, T9, T30, T38])) <;> rfl)))
    | (apply R_cond
       · (simp only [RE, Nat.reduceEqDiff, Nat.reduceLT, Nat.reduceLeDiff, Nat.reduceBEq, reduceIte, live51 3, T3, T9, T30, T38] <;> rfl))
    | (apply R_grd
       · (simp only [yieldedA, RY, Nat.reduceEqDiff, reduceIte, live51 3, T3, T9, T30, T38] <;> rfl)))
  refine R_fn ?_ (sum52 4 h3 v3 b own3.sl (by omega)) ?_
  · rfl
  intro v4 h4 ⟨hv4, F4⟩
  subst hv4
  have b24 : By h4 v2 b := b23.fr0 F4
  have b34 : By h4 v3 b := own3.sl.fr0 F4
  repeat (first
    | refine R_seq ?_ | refine R_region ?_ | refine R_nil ?_ | refine Q_seq ?_ | refine Q_norm ?_ | refine Q_seqr ?_ | refine Q_seqx ?_ | refine Q_bl ?_ | refine Q_blr ?_ | refine Q_blx ?_ | refine Q_blo rfl ?_ | refine R_block ?_ | refine R_skip ?_ | refine R_exit ?_ | refine R_ret ?_ | refine I_true ?_ | refine I_false ?_ | refine N_exit ?_ | refine N_ret ?_
    | (refine R_draw (by kernel_rfl) ?_)
    | ((first | apply R_op | apply R_op0)
       · (first | (simp (maxDischargeDepth := 9) only [RA, Nat.reduceEqDiff, Nat.reduceLT, Nat.reduceLeDiff, Nat.reduceAdd, Nat.reduceSub, Nat.reduceMul, Nat.reduceDiv, Nat.reduceMod, Nat.reducePow, Nat.reduceBEq, Nat.reduceGT, reduceIte, T3, T9, T30, T38] <;> rfl) | ((repeat (first | (simp (maxDischargeDepth := 9) only [RA, Nat.reduceEqDiff, Nat.reduceLT, Nat.reduceLeDiff, Nat.reduceAdd, Nat.reduceSub, Nat.reduceMul, Nat.reduceDiv, Nat.reduceMod, Nat.reducePow, Nat.reduceBEq, Nat.reduceGT, reduceIte, T3, T9, T30, T38]; done) | simp (maxDischargeDepth := 9) only [RA, Nat.reduceEqDiff, Nat.reduceLT, Nat.reduceLeDiff, Nat.reduceAdd, Nat.reduceSub, Nat.reduceMul, Nat.reduceDiv, Nat.reduceMod, Nat.reducePow, Nat.reduceBEq, Nat.reduceGT, reduceIte, T3, T9, T30, T38] | simp (disch := first | assumption | omega) only [RV, T3, T9, T30, T38])) <;> rfl)))
    | (apply R_cond
       · (simp only [RE, Nat.reduceEqDiff, Nat.reduceLT, Nat.reduceLeDiff, Nat.reduceBEq, reduceIte, T3, T9, T30, T38] <;> rfl))
    | (apply R_grd
       · (simp only [yieldedA, RY, Nat.reduceEqDiff, reduceIte, T3, T9, T30, T38] <;> rfl)))
  refine R_fn ?_ (sum53 7 h4 v2 b b24 (by omega)) ?_
  · rfl
  intro v5 h5 ⟨hv5, F5⟩
  subst hv5
  repeat (first
    | refine R_seq ?_ | refine R_region ?_ | refine R_nil ?_ | refine Q_seq ?_ | refine Q_norm ?_ | refine Q_seqr ?_ | refine Q_seqx ?_ | refine Q_bl ?_ | refine Q_blr ?_ | refine Q_blx ?_ | refine Q_blo rfl ?_ | refine R_block ?_ | refine R_skip ?_ | refine R_exit ?_ | refine R_ret ?_ | refine I_true ?_ | refine I_false ?_ | refine N_exit ?_ | refine N_ret ?_
    | (refine R_draw (by kernel_rfl) ?_)
    | ((first | apply R_op | apply R_op0)
       · (first | (simp (maxDischargeDepth := 9) only [RA, Nat.reduceEqDiff, Nat.reduceLT, Nat.reduceLeDiff, Nat.reduceAdd, Nat.reduceSub, Nat.reduceMul, Nat.reduceDiv, Nat.reduceMod, Nat.reducePow, Nat.reduceBEq, Nat.reduceGT, reduceIte, beq30 (sumS_length b) (sumS_length b), S38str b24, S38str b34, F5, RF, str_eql, T3, T9, T30, T38] <;> rfl) | ((repeat (first | (simp (maxDischargeDepth := 9) only [RA, Nat.reduceEqDiff, Nat.reduceLT, Nat.reduceLeDiff, Nat.reduceAdd, Nat.reduceSub, Nat.reduceMul, Nat.reduceDiv, Nat.reduceMod, Nat.reducePow, Nat.reduceBEq, Nat.reduceGT, reduceIte, beq30 (sumS_length b) (sumS_length b), S38str b24, S38str b34, F5, RF, str_eql, T3, T9, T30, T38]; done) | simp (maxDischargeDepth := 9) only [RA, Nat.reduceEqDiff, Nat.reduceLT, Nat.reduceLeDiff, Nat.reduceAdd, Nat.reduceSub, Nat.reduceMul, Nat.reduceDiv, Nat.reduceMod, Nat.reducePow, Nat.reduceBEq, Nat.reduceGT, reduceIte, beq30 (sumS_length b) (sumS_length b), S38str b24, S38str b34, F5, RF, str_eql, T3, T9, T30, T38] | simp (disch := first | assumption | omega) only [RV, beq30 (sumS_length b) (sumS_length b), S38str b24, S38str b34, F5, RF, str_eql, T3, T9, T30, T38])) <;> rfl)))
    | (apply R_cond
       · (simp only [RE, Nat.reduceEqDiff, Nat.reduceLT, Nat.reduceLeDiff, Nat.reduceBEq, reduceIte, beq30 (sumS_length b) (sumS_length b), S38str b24, S38str b34, F5, RF, str_eql, T3, T9, T30, T38] <;> rfl))
    | (apply R_grd
       · (simp only [yieldedA, RY, Nat.reduceEqDiff, reduceIte, beq30 (sumS_length b) (sumS_length b), S38str b24, S38str b34, F5, RF, str_eql, T3, T9, T30, T38] <;> rfl)))
  (first | refine ⟨.inr rfl, _, rfl, ?_⟩ | refine ⟨.inl rfl, _, rfl, ?_⟩) <;> simp only [packR, upd_apply, Nat.reduceEqDiff, if_true, if_false, reduceIte]
set_option maxRecDepth 20000 in
set_option maxHeartbeats 8000000 in
theorem law11 (h : Heap) (v : Value) (b : List (BitVec 8)) (hb : By h v b) : ∃ v1 h1, evF (cfg0 Try.prog) 12 11 [v] h = some (.ok v1, h1) ∧ v1 = .bool true := by
  rw [evF_eq Try.func11 rfl]
  apply evEnd_of_W
  simp only [Try.f11]
  obtain ⟨v2, e2, b2, r2⟩ := few50 10 _ v b 600 hb
  repeat (first
    | refine R_seq ?_ | refine R_region ?_ | refine R_nil ?_ | refine Q_seq ?_ | refine Q_norm ?_ | refine Q_seqr ?_ | refine Q_seqx ?_ | refine Q_bl ?_ | refine Q_blr ?_ | refine Q_blx ?_ | refine Q_blo rfl ?_ | refine R_block ?_ | refine R_skip ?_ | refine R_exit ?_ | refine R_ret ?_ | refine I_true ?_ | refine I_false ?_ | refine N_exit ?_ | refine N_ret ?_
    | ((first | apply R_op | apply R_op0)
       · (first | (simp (maxDischargeDepth := 9) only [RA, Nat.reduceEqDiff, Nat.reduceLT, Nat.reduceLeDiff, Nat.reduceAdd, Nat.reduceSub, Nat.reduceMul, Nat.reduceDiv, Nat.reduceMod, Nat.reducePow, Nat.reduceBEq, Nat.reduceGT, reduceIte, e2, T3, T9, T38, T47] <;> rfl) | ((repeat (first | (simp (maxDischargeDepth := 9) only [RA, Nat.reduceEqDiff, Nat.reduceLT, Nat.reduceLeDiff, Nat.reduceAdd, Nat.reduceSub, Nat.reduceMul, Nat.reduceDiv, Nat.reduceMod, Nat.reducePow, Nat.reduceBEq, Nat.reduceGT, reduceIte, e2, T3, T9, T38, T47]; done) | simp (maxDischargeDepth := 9) only [RA, Nat.reduceEqDiff, Nat.reduceLT, Nat.reduceLeDiff, Nat.reduceAdd, Nat.reduceSub, Nat.reduceMul, Nat.reduceDiv, Nat.reduceMod, Nat.reducePow, Nat.reduceBEq, Nat.reduceGT, reduceIte, e2, T3, T9, T38, T47] | simp (disch := first | assumption | omega) only [RV, e2, T3, T9, T38, T47])) <;> rfl)))
    | (apply R_cond
       · (simp only [RE, Nat.reduceEqDiff, Nat.reduceLT, Nat.reduceLeDiff, Nat.reduceBEq, reduceIte, e2, T3, T9, T38, T47] <;> rfl))
    | (apply R_grd
       · (simp only [yieldedA, RY, Nat.reduceEqDiff, reduceIte, e2, T3, T9, T38, T47] <;> rfl)))
  have hbl : (b.take 600).length ≤ 600 := by simp; omega
  generalize b.take 600 = b at b2 hbl
  refine D_draw [0, 3, 4, 6, 7, 11, 12] (fun _ => True) (by kernel_rfl) ?_
  repeat (first
    | refine D_nil ?_ | refine I_true ?_ | refine I_false ?_
    | ((first | apply D_op | apply D_op0)
       · (first | (simp (maxDischargeDepth := 9) only [RA, Nat.reduceEqDiff, Nat.reduceLT, Nat.reduceLeDiff, Nat.reduceAdd, Nat.reduceSub, Nat.reduceMul, Nat.reduceDiv, Nat.reduceMod, Nat.reducePow, Nat.reduceBEq, Nat.reduceGT, reduceIte, live51 3, T3, T9, T38, T47] <;> rfl) | ((repeat (first | (simp (maxDischargeDepth := 9) only [RA, Nat.reduceEqDiff, Nat.reduceLT, Nat.reduceLeDiff, Nat.reduceAdd, Nat.reduceSub, Nat.reduceMul, Nat.reduceDiv, Nat.reduceMod, Nat.reducePow, Nat.reduceBEq, Nat.reduceGT, reduceIte, live51 3, T3, T9, T38, T47]; done) | simp (maxDischargeDepth := 9) only [RA, Nat.reduceEqDiff, Nat.reduceLT, Nat.reduceLeDiff, Nat.reduceAdd, Nat.reduceSub, Nat.reduceMul, Nat.reduceDiv, Nat.reduceMod, Nat.reducePow, Nat.reduceBEq, Nat.reduceGT, reduceIte, live51 3, T3, T9, T38, T47] | simp (disch := first | assumption | omega) only [RV, live51 3, T3, T9, T38, T47])) <;> rfl))
       · (intro hF; first | exact chk_pure rfl | exact chk_alloc rfl | exact chk_read rfl | exact chk_iso iso50 | exact chk_call iso50 (fun _ _ _ => rfl) | exact chk_iso iso51 | exact chk_call iso51 (fun _ _ _ => rfl) | exact chk_iso iso54 | exact chk_call iso54 (fun _ _ _ => rfl) | exact chk_iso iso55 | exact chk_call iso55 (fun _ _ _ => rfl) | exact chk_iso iso56 | exact chk_call iso56 (fun _ _ _ => rfl) | exact chk_iso iso57 | exact chk_call iso57 (fun _ _ _ => rfl) | (exfalso; revert hF; decide) | ((first | refine chk_load ?_ | refine chk_slice ?_ | refine chk_convert ?_ | refine chk_store ?_ | refine chk_call (by kernel_rfl) ?_); simp only [eq_self, ev_tmp, upd_apply, rowsOfV, List.mem_cons, List.not_mem_nil, or_false, forall_eq, forall_eq_or_imp, obj_put, obj_new, nx_new, nx_put, Nat.reduceEqDiff, if_true, if_false, reduceIte, implies_true, and_self, and_true, true_or, or_true, live51 3, T3, T9, T38, T47])))
    | (apply D_grd
       · (simp only [yieldedA, RY, Nat.reduceEqDiff, reduceIte, live51 3, T3, T9, T38, T47] <;> rfl)))
  refine D_fn ?_ (pad54 10 h v2 b b2 (by omega)) iso54 (fun v4 h4 hp _ r _ hr => hp.2.2 r hr) ?_
  · rfl
  intro v3 h3 ⟨own3, F3⟩
  have b23 : By h3 v2 b := b2.fr0 F3
  repeat (first
    | refine D_nil ?_ | refine I_true ?_ | refine I_false ?_
    | ((first | apply D_op | apply D_op0)
       · (first | (simp (maxDischargeDepth := 9) only [RA, Nat.reduceEqDiff, Nat.reduceLT, Nat.reduceLeDiff, Nat.reduceAdd, Nat.reduceSub, Nat.reduceMul, Nat.reduceDiv, Nat.reduceMod, Nat.reducePow, Nat.reduceBEq, Nat.reduceGT, reduceIte, S38str own3.sl, RF, T3, T9, T38, T47] <;> rfl) | ((repeat (first | (simp (maxDischargeDepth := 9) only [RA, Nat.reduceEqDiff, Nat.reduceLT, Nat.reduceLeDiff, Nat.reduceAdd, Nat.reduceSub, Nat.reduceMul, Nat.reduceDiv, Nat.reduceMod, Nat.reducePow, Nat.reduceBEq, Nat.reduceGT, reduceIte, S38str own3.sl, RF, T3, T9, T38, T47]; done) | simp (maxDischargeDepth := 9) only [RA, Nat.reduceEqDiff, Nat.reduceLT, Nat.reduceLeDiff, Nat.reduceAdd, Nat.reduceSub, Nat.reduceMul, Nat.reduceDiv, Nat.reduceMod, Nat.reducePow, Nat.reduceBEq, Nat.reduceGT, reduceIte, S38str own3.sl, RF, T3, T9, T38, T47] | simp (disch := first | assumption | omega) only [RV, S38str own3.sl, RF, T3, T9, T38, T47])) <;> rfl))
       · (intro hF; first | exact chk_pure rfl | exact chk_alloc rfl | exact chk_read rfl | exact chk_iso iso50 | exact chk_call iso50 (fun _ _ _ => rfl) | exact chk_iso iso51 | exact chk_call iso51 (fun _ _ _ => rfl) | exact chk_iso iso54 | exact chk_call iso54 (fun _ _ _ => rfl) | exact chk_iso iso55 | exact chk_call iso55 (fun _ _ _ => rfl) | exact chk_iso iso56 | exact chk_call iso56 (fun _ _ _ => rfl) | exact chk_iso iso57 | exact chk_call iso57 (fun _ _ _ => rfl) | (exfalso; revert hF; decide) | ((first | refine chk_load ?_ | refine chk_slice ?_ | refine chk_convert ?_ | refine chk_store ?_ | refine chk_call (by kernel_rfl) ?_); simp only [eq_self, ev_tmp, upd_apply, rowsOfV, List.mem_cons, List.not_mem_nil, or_false, forall_eq, forall_eq_or_imp, obj_put, obj_new, nx_new, nx_put, Nat.reduceEqDiff, if_true, if_false, reduceIte, implies_true, and_self, and_true, true_or, or_true, S38str own3.sl, RF, T3, T9, T38, T47])))
    | (apply D_grd
       · (simp only [yieldedA, RY, Nat.reduceEqDiff, reduceIte, S38str own3.sl, RF, T3, T9, T38, T47] <;> rfl)))
  refine D_fn ?_ (pad55 10 h3 v2 b b23 (by omega)) iso55 (fun v4 h4 hp _ r _ hr => hp.2.2 r hr) ?_
  · rfl
  intro v4 h4 ⟨own4, F4⟩
  repeat (first
    | refine D_nil ?_ | refine I_true ?_ | refine I_false ?_
    | ((first | apply D_op | apply D_op0)
       · (first | (simp (maxDischargeDepth := 9) only [RA, Nat.reduceEqDiff, Nat.reduceLT, Nat.reduceLeDiff, Nat.reduceAdd, Nat.reduceSub, Nat.reduceMul, Nat.reduceDiv, Nat.reduceMod, Nat.reducePow, Nat.reduceBEq, Nat.reduceGT, reduceIte, S38str own4.sl, RF, str_eql, start56 10, start57 10, beq47 (St.l_length start) (St.l_length start), T3, T9, T38, T47] <;> rfl) | ((repeat (first | (simp (maxDischargeDepth := 9) only [RA, Nat.reduceEqDiff, Nat.reduceLT, Nat.reduceLeDiff, Nat.reduceAdd, Nat.reduceSub, Nat.reduceMul, Nat.reduceDiv, Nat.reduceMod, Nat.reducePow, Nat.reduceBEq, Nat.reduceGT, reduceIte, S38str own4.sl, RF, str_eql, start56 10, start57 10, beq47 (St.l_length start) (St.l_length start), T3, T9, T38, T47]; done) | simp (maxDischargeDepth := 9) only [RA, Nat.reduceEqDiff, Nat.reduceLT, Nat.reduceLeDiff, Nat.reduceAdd, Nat.reduceSub, Nat.reduceMul, Nat.reduceDiv, Nat.reduceMod, Nat.reducePow, Nat.reduceBEq, Nat.reduceGT, reduceIte, S38str own4.sl, RF, str_eql, start56 10, start57 10, beq47 (St.l_length start) (St.l_length start), T3, T9, T38, T47] | simp (disch := first | assumption | omega) only [RV, S38str own4.sl, RF, str_eql, start56 10, start57 10, beq47 (St.l_length start) (St.l_length start), T3, T9, T38, T47])) <;> rfl))
       · (intro hF; first | exact chk_pure rfl | exact chk_alloc rfl | exact chk_read rfl | exact chk_iso iso50 | exact chk_call iso50 (fun _ _ _ => rfl) | exact chk_iso iso51 | exact chk_call iso51 (fun _ _ _ => rfl) | exact chk_iso iso54 | exact chk_call iso54 (fun _ _ _ => rfl) | exact chk_iso iso55 | exact chk_call iso55 (fun _ _ _ => rfl) | exact chk_iso iso56 | exact chk_call iso56 (fun _ _ _ => rfl) | exact chk_iso iso57 | exact chk_call iso57 (fun _ _ _ => rfl) | (exfalso; revert hF; decide) | ((first | refine chk_load ?_ | refine chk_slice ?_ | refine chk_convert ?_ | refine chk_store ?_ | refine chk_call (by kernel_rfl) ?_); simp only [eq_self, ev_tmp, upd_apply, rowsOfV, List.mem_cons, List.not_mem_nil, or_false, forall_eq, forall_eq_or_imp, obj_put, obj_new, nx_new, nx_put, Nat.reduceEqDiff, if_true, if_false, reduceIte, implies_true, and_self, and_true, true_or, or_true, S38str own4.sl, RF, str_eql, start56 10, start57 10, beq47 (St.l_length start) (St.l_length start), T3, T9, T38, T47])))
    | (apply D_grd
       · (simp only [yieldedA, RY, Nat.reduceEqDiff, reduceIte, S38str own4.sl, RF, str_eql, start56 10, start57 10, beq47 (St.l_length start) (St.l_length start), T3, T9, T38, T47] <;> rfl)))
  repeat (first
    | refine R_seq ?_ | refine R_region ?_ | refine R_nil ?_ | refine Q_seq ?_ | refine Q_norm ?_ | refine Q_seqr ?_ | refine Q_seqx ?_ | refine Q_bl ?_ | refine Q_blr ?_ | refine Q_blx ?_ | refine Q_blo rfl ?_ | refine R_block ?_ | refine R_skip ?_ | refine R_exit ?_ | refine R_ret ?_ | refine I_true ?_ | refine I_false ?_ | refine N_exit ?_ | refine N_ret ?_
    | ((first | apply R_op | apply R_op0)
       · (first | (simp (maxDischargeDepth := 9) only [RA, Nat.reduceEqDiff, Nat.reduceLT, Nat.reduceLeDiff, Nat.reduceAdd, Nat.reduceSub, Nat.reduceMul, Nat.reduceDiv, Nat.reduceMod, Nat.reducePow, Nat.reduceBEq, Nat.reduceGT, reduceIte, T3, T9, T38, T47] <;> rfl) | ((repeat (first | (simp (maxDischargeDepth := 9) only [RA, Nat.reduceEqDiff, Nat.reduceLT, Nat.reduceLeDiff, Nat.reduceAdd, Nat.reduceSub, Nat.reduceMul, Nat.reduceDiv, Nat.reduceMod, Nat.reducePow, Nat.reduceBEq, Nat.reduceGT, reduceIte, T3, T9, T38, T47]; done) | simp (maxDischargeDepth := 9) only [RA, Nat.reduceEqDiff, Nat.reduceLT, Nat.reduceLeDiff, Nat.reduceAdd, Nat.reduceSub, Nat.reduceMul, Nat.reduceDiv, Nat.reduceMod, Nat.reducePow, Nat.reduceBEq, Nat.reduceGT, reduceIte, T3, T9, T38, T47] | simp (disch := first | assumption | omega) only [RV, T3, T9, T38, T47])) <;> rfl)))
    | (apply R_cond
       · (simp only [RE, Nat.reduceEqDiff, Nat.reduceLT, Nat.reduceLeDiff, Nat.reduceBEq, reduceIte, T3, T9, T38, T47] <;> rfl))
    | (apply R_grd
       · (simp only [yieldedA, RY, Nat.reduceEqDiff, reduceIte, T3, T9, T38, T47] <;> rfl)))
  (first | refine ⟨.inr rfl, _, rfl, ?_⟩ | refine ⟨.inl rfl, _, rfl, ?_⟩) <;> simp only [packR, upd_apply, Nat.reduceEqDiff, if_true, if_false, reduceIte]
set_option maxRecDepth 20000 in
set_option maxHeartbeats 8000000 in
theorem law12 (s : St) (h : Heap) (v : Value) (b : List (BitVec 8)) (hb : By h v b) : ∃ v1 h1, evF (cfg0 Try.prog) 12 12 [.agg ⟨b32 s.l⟩, v] h = some (.ok v1, h1) ∧ v1 = .bool true := by
  rw [evF_eq Try.func12 rfl]
  apply evEnd_of_W
  simp only [Try.f12]
  have hcs := fun (kd : Kind) (es : Nat) => cut32 (k := kd) (es := es) (St.l_length s)
  repeat (first
    | refine R_seq ?_ | refine R_region ?_ | refine R_nil ?_ | refine Q_seq ?_ | refine Q_norm ?_ | refine Q_seqr ?_ | refine Q_seqx ?_ | refine Q_bl ?_ | refine Q_blr ?_ | refine Q_blx ?_ | refine Q_blo rfl ?_ | refine R_block ?_ | refine R_skip ?_ | refine R_exit ?_ | refine R_ret ?_ | refine I_true ?_ | refine I_false ?_ | refine N_exit ?_ | refine N_ret ?_
    | ((first | apply R_op | apply R_op0)
       · (first | (simp (maxDischargeDepth := 9) only [RA, Nat.reduceEqDiff, Nat.reduceLT, Nat.reduceLeDiff, Nat.reduceAdd, Nat.reduceSub, Nat.reduceMul, Nat.reduceDiv, Nat.reduceMod, Nat.reducePow, Nat.reduceBEq, Nat.reduceGT, reduceIte, T38, T47, T48] <;> rfl) | ((repeat (first | (simp (maxDischargeDepth := 9) only [RA, Nat.reduceEqDiff, Nat.reduceLT, Nat.reduceLeDiff, Nat.reduceAdd, Nat.reduceSub, Nat.reduceMul, Nat.reduceDiv, Nat.reduceMod, Nat.reducePow, Nat.reduceBEq, Nat.reduceGT, reduceIte, T38, T47, T48]; done) | simp (maxDischargeDepth := 9) only [RA, Nat.reduceEqDiff, Nat.reduceLT, Nat.reduceLeDiff, Nat.reduceAdd, Nat.reduceSub, Nat.reduceMul, Nat.reduceDiv, Nat.reduceMod, Nat.reducePow, Nat.reduceBEq, Nat.reduceGT, reduceIte, T38, T47, T48] | simp (disch := first | assumption | omega) only [RV, T38, T47, T48])) <;> rfl)))
    | (apply R_cond
       · (simp only [RE, Nat.reduceEqDiff, Nat.reduceLT, Nat.reduceLeDiff, Nat.reduceBEq, reduceIte, T38, T47, T48] <;> rfl))
    | (apply R_grd
       · (simp only [yieldedA, RY, Nat.reduceEqDiff, reduceIte, T38, T47, T48] <;> rfl)))
  refine W_heap fun H hH => ?_
  have o0 : H.obj h.nx = some (.row .rw 1 (b32 s.l)) := by rw [hH]; simp [RH]
  have b1 : By H v b := hb.fr0 (by rw [hH]; (repeat (first | assumption | exact Fr.refl _ _ | refine Fr.new ?_ ?_ _ _ _ | refine Fr.put ?_ ?_ _ | omega | (simp only [RH]; omega))))
  have n0 : h.nx < H.nx := by rw [hH]; simp [RH]
  clear hH
  refine D_draw [0, 2, 4, 5, 7] (fun _ => True) (by kernel_rfl) ?_
  repeat (first
    | refine D_nil ?_ | refine I_true ?_ | refine I_false ?_
    | ((first | apply D_op | apply D_op0)
       · (first | (simp (maxDischargeDepth := 9) only [RA, Nat.reduceEqDiff, Nat.reduceLT, Nat.reduceLeDiff, Nat.reduceAdd, Nat.reduceSub, Nat.reduceMul, Nat.reduceDiv, Nat.reduceMod, Nat.reducePow, Nat.reduceBEq, Nat.reduceGT, reduceIte, live51 3, o0, hcs, T38, T47, T48] <;> rfl) | ((repeat (first | (simp (maxDischargeDepth := 9) only [RA, Nat.reduceEqDiff, Nat.reduceLT, Nat.reduceLeDiff, Nat.reduceAdd, Nat.reduceSub, Nat.reduceMul, Nat.reduceDiv, Nat.reduceMod, Nat.reducePow, Nat.reduceBEq, Nat.reduceGT, reduceIte, live51 3, o0, hcs, T38, T47, T48]; done) | simp (maxDischargeDepth := 9) only [RA, Nat.reduceEqDiff, Nat.reduceLT, Nat.reduceLeDiff, Nat.reduceAdd, Nat.reduceSub, Nat.reduceMul, Nat.reduceDiv, Nat.reduceMod, Nat.reducePow, Nat.reduceBEq, Nat.reduceGT, reduceIte, live51 3, o0, hcs, T38, T47, T48] | simp (disch := first | assumption | omega) only [RV, live51 3, o0, hcs, T38, T47, T48])) <;> rfl))
       · (intro hF; first | exact chk_pure rfl | exact chk_alloc rfl | exact chk_read rfl | exact chk_iso iso51 | exact chk_call iso51 (fun _ _ _ => rfl) | exact chk_iso iso58 | exact chk_call iso58 (fun _ _ _ => rfl) | exact chk_iso iso59 | exact chk_call iso59 (fun _ _ _ => rfl) | (exfalso; revert hF; decide) | ((first | refine chk_load ?_ | refine chk_slice ?_ | refine chk_convert ?_ | refine chk_store ?_ | refine chk_call (by kernel_rfl) ?_); simp only [eq_self, ev_tmp, upd_apply, rowsOfV, List.mem_cons, List.not_mem_nil, or_false, forall_eq, forall_eq_or_imp, obj_put, obj_new, nx_new, nx_put, Nat.reduceEqDiff, if_true, if_false, reduceIte, implies_true, and_self, and_true, true_or, or_true, live51 3, o0, hcs, T38, T47, T48])))
    | (apply D_grd
       · (simp only [yieldedA, RY, Nat.reduceEqDiff, reduceIte, live51 3, o0, hcs, T38, T47, T48] <;> rfl)))
  refine D_fn ?_ (step58 7 H s v b b1) iso58 (fun v4 h4 hp _ r _ hr => hp.2.2 r hr) ?_
  · rfl
  intro v3 h3 ⟨hv3, F3⟩
  subst hv3
  have b13 : By h3 v b := b1.fr0 F3
  have o3 := F3.2 h.nx n0
  rw [o0] at o3
  repeat (first
    | refine D_nil ?_ | refine I_true ?_ | refine I_false ?_
    | ((first | apply D_op | apply D_op0)
       · (first | (simp (maxDischargeDepth := 9) only [RA, Nat.reduceEqDiff, Nat.reduceLT, Nat.reduceLeDiff, Nat.reduceAdd, Nat.reduceSub, Nat.reduceMul, Nat.reduceDiv, Nat.reduceMod, Nat.reducePow, Nat.reduceBEq, Nat.reduceGT, reduceIte, o3, hcs, T38, T47, T48] <;> rfl) | ((repeat (first | (simp (maxDischargeDepth := 9) only [RA, Nat.reduceEqDiff, Nat.reduceLT, Nat.reduceLeDiff, Nat.reduceAdd, Nat.reduceSub, Nat.reduceMul, Nat.reduceDiv, Nat.reduceMod, Nat.reducePow, Nat.reduceBEq, Nat.reduceGT, reduceIte, o3, hcs, T38, T47, T48]; done) | simp (maxDischargeDepth := 9) only [RA, Nat.reduceEqDiff, Nat.reduceLT, Nat.reduceLeDiff, Nat.reduceAdd, Nat.reduceSub, Nat.reduceMul, Nat.reduceDiv, Nat.reduceMod, Nat.reducePow, Nat.reduceBEq, Nat.reduceGT, reduceIte, o3, hcs, T38, T47, T48] | simp (disch := first | assumption | omega) only [RV, o3, hcs, T38, T47, T48])) <;> rfl))
       · (intro hF; first | exact chk_pure rfl | exact chk_alloc rfl | exact chk_read rfl | exact chk_iso iso51 | exact chk_call iso51 (fun _ _ _ => rfl) | exact chk_iso iso58 | exact chk_call iso58 (fun _ _ _ => rfl) | exact chk_iso iso59 | exact chk_call iso59 (fun _ _ _ => rfl) | (exfalso; revert hF; decide) | ((first | refine chk_load ?_ | refine chk_slice ?_ | refine chk_convert ?_ | refine chk_store ?_ | refine chk_call (by kernel_rfl) ?_); simp only [eq_self, ev_tmp, upd_apply, rowsOfV, List.mem_cons, List.not_mem_nil, or_false, forall_eq, forall_eq_or_imp, obj_put, obj_new, nx_new, nx_put, Nat.reduceEqDiff, if_true, if_false, reduceIte, implies_true, and_self, and_true, true_or, or_true, o3, hcs, T38, T47, T48])))
    | (apply D_grd
       · (simp only [yieldedA, RY, Nat.reduceEqDiff, reduceIte, o3, hcs, T38, T47, T48] <;> rfl)))
  refine D_fn ?_ (step59 8 h3 s v b b13) iso59 (fun v4 h4 hp _ r _ hr => hp.2.2 r hr) ?_
  · rfl
  intro v4 h4 ⟨hv4, F4⟩
  subst hv4
  repeat (first
    | refine D_nil ?_ | refine I_true ?_ | refine I_false ?_
    | ((first | apply D_op | apply D_op0)
       · (first | (simp (maxDischargeDepth := 9) only [RA, Nat.reduceEqDiff, Nat.reduceLT, Nat.reduceLeDiff, Nat.reduceAdd, Nat.reduceSub, Nat.reduceMul, Nat.reduceDiv, Nat.reduceMod, Nat.reducePow, Nat.reduceBEq, Nat.reduceGT, reduceIte, beq47 (St.l_length (shaStep s b)) (St.l_length (shaStep s b)), T38, T47, T48] <;> rfl) | ((repeat (first | (simp (maxDischargeDepth := 9) only [RA, Nat.reduceEqDiff, Nat.reduceLT, Nat.reduceLeDiff, Nat.reduceAdd, Nat.reduceSub, Nat.reduceMul, Nat.reduceDiv, Nat.reduceMod, Nat.reducePow, Nat.reduceBEq, Nat.reduceGT, reduceIte, beq47 (St.l_length (shaStep s b)) (St.l_length (shaStep s b)), T38, T47, T48]; done) | simp (maxDischargeDepth := 9) only [RA, Nat.reduceEqDiff, Nat.reduceLT, Nat.reduceLeDiff, Nat.reduceAdd, Nat.reduceSub, Nat.reduceMul, Nat.reduceDiv, Nat.reduceMod, Nat.reducePow, Nat.reduceBEq, Nat.reduceGT, reduceIte, beq47 (St.l_length (shaStep s b)) (St.l_length (shaStep s b)), T38, T47, T48] | simp (disch := first | assumption | omega) only [RV, beq47 (St.l_length (shaStep s b)) (St.l_length (shaStep s b)), T38, T47, T48])) <;> rfl))
       · (intro hF; first | exact chk_pure rfl | exact chk_alloc rfl | exact chk_read rfl | exact chk_iso iso51 | exact chk_call iso51 (fun _ _ _ => rfl) | exact chk_iso iso58 | exact chk_call iso58 (fun _ _ _ => rfl) | exact chk_iso iso59 | exact chk_call iso59 (fun _ _ _ => rfl) | (exfalso; revert hF; decide) | ((first | refine chk_load ?_ | refine chk_slice ?_ | refine chk_convert ?_ | refine chk_store ?_ | refine chk_call (by kernel_rfl) ?_); simp only [eq_self, ev_tmp, upd_apply, rowsOfV, List.mem_cons, List.not_mem_nil, or_false, forall_eq, forall_eq_or_imp, obj_put, obj_new, nx_new, nx_put, Nat.reduceEqDiff, if_true, if_false, reduceIte, implies_true, and_self, and_true, true_or, or_true, beq47 (St.l_length (shaStep s b)) (St.l_length (shaStep s b)), T38, T47, T48])))
    | (apply D_grd
       · (simp only [yieldedA, RY, Nat.reduceEqDiff, reduceIte, beq47 (St.l_length (shaStep s b)) (St.l_length (shaStep s b)), T38, T47, T48] <;> rfl)))
  repeat (first
    | refine R_seq ?_ | refine R_region ?_ | refine R_nil ?_ | refine Q_seq ?_ | refine Q_norm ?_ | refine Q_seqr ?_ | refine Q_seqx ?_ | refine Q_bl ?_ | refine Q_blr ?_ | refine Q_blx ?_ | refine Q_blo rfl ?_ | refine R_block ?_ | refine R_skip ?_ | refine R_exit ?_ | refine R_ret ?_ | refine I_true ?_ | refine I_false ?_ | refine N_exit ?_ | refine N_ret ?_
    | ((first | apply R_op | apply R_op0)
       · (first | (simp (maxDischargeDepth := 9) only [RA, Nat.reduceEqDiff, Nat.reduceLT, Nat.reduceLeDiff, Nat.reduceAdd, Nat.reduceSub, Nat.reduceMul, Nat.reduceDiv, Nat.reduceMod, Nat.reducePow, Nat.reduceBEq, Nat.reduceGT, reduceIte, T38, T47, T48] <;> rfl) | ((repeat (first | (simp (maxDischargeDepth := 9) only [RA, Nat.reduceEqDiff, Nat.reduceLT, Nat.reduceLeDiff, Nat.reduceAdd, Nat.reduceSub, Nat.reduceMul, Nat.reduceDiv, Nat.reduceMod, Nat.reducePow, Nat.reduceBEq, Nat.reduceGT, reduceIte, T38, T47, T48]; done) | simp (maxDischargeDepth := 9) only [RA, Nat.reduceEqDiff, Nat.reduceLT, Nat.reduceLeDiff, Nat.reduceAdd, Nat.reduceSub, Nat.reduceMul, Nat.reduceDiv, Nat.reduceMod, Nat.reducePow, Nat.reduceBEq, Nat.reduceGT, reduceIte, T38, T47, T48] | simp (disch := first | assumption | omega) only [RV, T38, T47, T48])) <;> rfl)))
    | (apply R_cond
       · (simp only [RE, Nat.reduceEqDiff, Nat.reduceLT, Nat.reduceLeDiff, Nat.reduceBEq, reduceIte, T38, T47, T48] <;> rfl))
    | (apply R_grd
       · (simp only [yieldedA, RY, Nat.reduceEqDiff, reduceIte, T38, T47, T48] <;> rfl)))
  (first | refine ⟨.inr rfl, _, rfl, ?_⟩ | refine ⟨.inl rfl, _, rfl, ?_⟩) <;> simp only [packR, upd_apply, Nat.reduceEqDiff, if_true, if_false, reduceIte]
theorem shaStep_odd (s : St) {b : List (BitVec 8)} (h : b.length ≠ 64) : shaStep s b = s := by unfold shaStep; exact if_neg h
set_option maxRecDepth 20000 in
set_option maxHeartbeats 8000000 in
theorem law15 (s : St) (h : Heap) (v : Value) (b : List (BitVec 8)) (hb : By h v b) : ∃ v1 h1, evF (cfg0 Try.prog) 12 15 [.agg ⟨b32 s.l⟩, v] h = some (.ok v1, h1) ∧ v1 = .bool true := by
  rw [evF_eq Try.func15 rfl]
  apply evEnd_of_W
  simp only [Try.f15]
  have hcs := fun (kd : Kind) (es : Nat) => cut32 (k := kd) (es := es) (St.l_length s)
  have tail : ∀ (w : Value) (bw : List (BitVec 8)) (H : Heap), bw.length ≠ 64 → By H w bw → H.obj h.nx = some (.row .rw 1 (b32 s.l)) → h.nx < H.nx → ∃ v3 h3, fcall Try.prog 11 (.func (.func 58) #[] #[]) [.agg ⟨b32 s.l⟩, w] H = some (.ok v3, h3) ∧ v3 = .agg ⟨b32 s.l⟩ ∧ h3.obj h.nx = some (.row .rw 1 (b32 s.l)) ∧ Fr H.nx H h3 := by
    intro w bw H hne hbw o0 n0
    obtain ⟨v3, h3, e1, e2, F3⟩ := step58 7 H s w bw hbw
    rw [shaStep_odd s hne] at e2
    exact ⟨v3, h3, e1, e2, by rw [F3.2 _ n0]; exact o0, F3⟩
  repeat (first
    | refine R_seq ?_ | refine R_region ?_ | refine R_nil ?_ | refine Q_seq ?_ | refine Q_norm ?_ | refine Q_seqr ?_ | refine Q_seqx ?_ | refine Q_bl ?_ | refine Q_blr ?_ | refine Q_blx ?_ | refine Q_blo rfl ?_ | refine R_block ?_ | refine R_skip ?_ | refine R_exit ?_ | refine R_ret ?_ | refine I_true ?_ | refine I_false ?_ | refine N_exit ?_ | refine N_ret ?_
    | ((first | apply R_op | apply R_op0)
       · (first | (simp (maxDischargeDepth := 9) only [RA, Nat.reduceEqDiff, Nat.reduceLT, Nat.reduceLeDiff, Nat.reduceAdd, Nat.reduceSub, Nat.reduceMul, Nat.reduceDiv, Nat.reduceMod, Nat.reducePow, Nat.reduceBEq, Nat.reduceGT, reduceIte, T3, T38, T47, T48] <;> rfl) | ((repeat (first | (simp (maxDischargeDepth := 9) only [RA, Nat.reduceEqDiff, Nat.reduceLT, Nat.reduceLeDiff, Nat.reduceAdd, Nat.reduceSub, Nat.reduceMul, Nat.reduceDiv, Nat.reduceMod, Nat.reducePow, Nat.reduceBEq, Nat.reduceGT, reduceIte, T3, T38, T47, T48]; done) | simp (maxDischargeDepth := 9) only [RA, Nat.reduceEqDiff, Nat.reduceLT, Nat.reduceLeDiff, Nat.reduceAdd, Nat.reduceSub, Nat.reduceMul, Nat.reduceDiv, Nat.reduceMod, Nat.reducePow, Nat.reduceBEq, Nat.reduceGT, reduceIte, T3, T38, T47, T48] | simp (disch := first | assumption | omega) only [RV, T3, T38, T47, T48])) <;> rfl)))
    | (apply R_cond
       · (simp only [RE, Nat.reduceEqDiff, Nat.reduceLT, Nat.reduceLeDiff, Nat.reduceBEq, reduceIte, T3, T38, T47, T48] <;> rfl))
    | (apply R_grd
       · (simp only [yieldedA, RY, Nat.reduceEqDiff, reduceIte, T3, T38, T47, T48] <;> rfl)))
  refine O_heap fun H hH => ?_
  have o0 : H.obj h.nx = some (.row .rw 1 (b32 s.l)) := by rw [hH]; simp [RH]
  have b1 : By H v b := hb.fr0 (by rw [hH]; (repeat (first | assumption | exact Fr.refl _ _ | refine Fr.new ?_ ?_ _ _ _ | refine Fr.put ?_ ?_ _ | omega | (simp only [RH]; omega))))
  have n0 : h.nx < H.nx := by rw [hH]; simp [RH]
  clear hH
  by_cases h64 : b.length = 64
  · have s1 := S38h (hh := 63) b1 fr_refl (by omega)
    have b2 := By.subh (mx := none) (hh := 63) b1 (by omega) (fun m hm => nomatch hm)
    repeat (first
      | refine R_seq ?_ | refine R_region ?_ | refine R_nil ?_ | refine Q_seq ?_ | refine Q_norm ?_ | refine Q_seqr ?_ | refine Q_seqx ?_ | refine Q_bl ?_ | refine Q_blr ?_ | refine Q_blx ?_ | refine Q_blo rfl ?_ | refine R_block ?_ | refine R_skip ?_ | refine R_exit ?_ | refine R_ret ?_ | refine I_true ?_ | refine I_false ?_ | refine N_exit ?_ | refine N_ret ?_
      | ((first | apply R_op | apply R_op0)
         · (first | (simp (maxDischargeDepth := 9) only [RA, Nat.reduceEqDiff, Nat.reduceLT, Nat.reduceLeDiff, Nat.reduceAdd, Nat.reduceSub, Nat.reduceMul, Nat.reduceDiv, Nat.reduceMod, Nat.reducePow, Nat.reduceBEq, Nat.reduceGT, reduceIte, S38len b1, h64, s1, T3, T38, T47, T48] <;> rfl) | ((repeat (first | (simp (maxDischargeDepth := 9) only [RA, Nat.reduceEqDiff, Nat.reduceLT, Nat.reduceLeDiff, Nat.reduceAdd, Nat.reduceSub, Nat.reduceMul, Nat.reduceDiv, Nat.reduceMod, Nat.reducePow, Nat.reduceBEq, Nat.reduceGT, reduceIte, S38len b1, h64, s1, T3, T38, T47, T48]; done) | simp (maxDischargeDepth := 9) only [RA, Nat.reduceEqDiff, Nat.reduceLT, Nat.reduceLeDiff, Nat.reduceAdd, Nat.reduceSub, Nat.reduceMul, Nat.reduceDiv, Nat.reduceMod, Nat.reducePow, Nat.reduceBEq, Nat.reduceGT, reduceIte, S38len b1, h64, s1, T3, T38, T47, T48] | simp (disch := first | assumption | omega) only [RV, S38len b1, h64, s1, T3, T38, T47, T48])) <;> rfl)))
      | (apply R_cond
         · (simp only [RE, Nat.reduceEqDiff, Nat.reduceLT, Nat.reduceLeDiff, Nat.reduceBEq, reduceIte, S38len b1, h64, s1, T3, T38, T47, T48] <;> rfl))
      | (apply R_grd
         · (simp only [yieldedA, RY, Nat.reduceEqDiff, reduceIte, S38len b1, h64, s1, T3, T38, T47, T48] <;> rfl)))
    refine D_draw [0, 2, 4, 5] (fun _ => True) (by kernel_rfl) ?_
    repeat (first
      | refine D_nil ?_ | refine I_true ?_ | refine I_false ?_
      | ((first | apply D_op | apply D_op0)
         · (first | (simp (maxDischargeDepth := 9) only [RA, Nat.reduceEqDiff, Nat.reduceLT, Nat.reduceLeDiff, Nat.reduceAdd, Nat.reduceSub, Nat.reduceMul, Nat.reduceDiv, Nat.reduceMod, Nat.reducePow, Nat.reduceBEq, Nat.reduceGT, reduceIte, live51 3, o0, hcs, T3, T38, T47, T48] <;> rfl) | ((repeat (first | (simp (maxDischargeDepth := 9) only [RA, Nat.reduceEqDiff, Nat.reduceLT, Nat.reduceLeDiff, Nat.reduceAdd, Nat.reduceSub, Nat.reduceMul, Nat.reduceDiv, Nat.reduceMod, Nat.reducePow, Nat.reduceBEq, Nat.reduceGT, reduceIte, live51 3, o0, hcs, T3, T38, T47, T48]; done) | simp (maxDischargeDepth := 9) only [RA, Nat.reduceEqDiff, Nat.reduceLT, Nat.reduceLeDiff, Nat.reduceAdd, Nat.reduceSub, Nat.reduceMul, Nat.reduceDiv, Nat.reduceMod, Nat.reducePow, Nat.reduceBEq, Nat.reduceGT, reduceIte, live51 3, o0, hcs, T3, T38, T47, T48] | simp (disch := first | assumption | omega) only [RV, live51 3, o0, hcs, T3, T38, T47, T48])) <;> rfl))
         · (intro hF; first | exact chk_pure rfl | exact chk_alloc rfl | exact chk_read rfl | exact chk_iso iso51 | exact chk_call iso51 (fun _ _ _ => rfl) | exact chk_iso iso58 | exact chk_call iso58 (fun _ _ _ => rfl) | (exfalso; revert hF; decide) | ((first | refine chk_load ?_ | refine chk_slice ?_ | refine chk_convert ?_ | refine chk_store ?_ | refine chk_call (by kernel_rfl) ?_); simp only [eq_self, ev_tmp, upd_apply, rowsOfV, List.mem_cons, List.not_mem_nil, or_false, forall_eq, forall_eq_or_imp, obj_put, obj_new, nx_new, nx_put, Nat.reduceEqDiff, if_true, if_false, reduceIte, implies_true, and_self, and_true, true_or, or_true, live51 3, o0, hcs, T3, T38, T47, T48])))
      | (apply D_grd
         · (simp only [yieldedA, RY, Nat.reduceEqDiff, reduceIte, live51 3, o0, hcs, T3, T38, T47, T48] <;> rfl)))
    refine D_fn ?_ (tail _ _ H (by rw [List.length_take]; omega) b2 o0 n0) iso58 (fun v4 h4 hp _ r _ hr => hp.2.2.2 r hr) ?_
    · rfl
    intro v3 h3 ⟨hv3, o3, F3⟩
    subst hv3
    repeat (first
      | refine D_nil ?_ | refine I_true ?_ | refine I_false ?_
      | ((first | apply D_op | apply D_op0)
         · (first | (simp (maxDischargeDepth := 9) only [RA, Nat.reduceEqDiff, Nat.reduceLT, Nat.reduceLeDiff, Nat.reduceAdd, Nat.reduceSub, Nat.reduceMul, Nat.reduceDiv, Nat.reduceMod, Nat.reducePow, Nat.reduceBEq, Nat.reduceGT, reduceIte, o3, hcs, beq48 (St.l_length s) (St.l_length s), T3, T38, T47, T48] <;> rfl) | ((repeat (first | (simp (maxDischargeDepth := 9) only [RA, Nat.reduceEqDiff, Nat.reduceLT, Nat.reduceLeDiff, Nat.reduceAdd, Nat.reduceSub, Nat.reduceMul, Nat.reduceDiv, Nat.reduceMod, Nat.reducePow, Nat.reduceBEq, Nat.reduceGT, reduceIte, o3, hcs, beq48 (St.l_length s) (St.l_length s), T3, T38, T47, T48]; done) | simp (maxDischargeDepth := 9) only [RA, Nat.reduceEqDiff, Nat.reduceLT, Nat.reduceLeDiff, Nat.reduceAdd, Nat.reduceSub, Nat.reduceMul, Nat.reduceDiv, Nat.reduceMod, Nat.reducePow, Nat.reduceBEq, Nat.reduceGT, reduceIte, o3, hcs, beq48 (St.l_length s) (St.l_length s), T3, T38, T47, T48] | simp (disch := first | assumption | omega) only [RV, o3, hcs, beq48 (St.l_length s) (St.l_length s), T3, T38, T47, T48])) <;> rfl))
         · (intro hF; first | exact chk_pure rfl | exact chk_alloc rfl | exact chk_read rfl | exact chk_iso iso51 | exact chk_call iso51 (fun _ _ _ => rfl) | exact chk_iso iso58 | exact chk_call iso58 (fun _ _ _ => rfl) | (exfalso; revert hF; decide) | ((first | refine chk_load ?_ | refine chk_slice ?_ | refine chk_convert ?_ | refine chk_store ?_ | refine chk_call (by kernel_rfl) ?_); simp only [eq_self, ev_tmp, upd_apply, rowsOfV, List.mem_cons, List.not_mem_nil, or_false, forall_eq, forall_eq_or_imp, obj_put, obj_new, nx_new, nx_put, Nat.reduceEqDiff, if_true, if_false, reduceIte, implies_true, and_self, and_true, true_or, or_true, o3, hcs, beq48 (St.l_length s) (St.l_length s), T3, T38, T47, T48])))
      | (apply D_grd
         · (simp only [yieldedA, RY, Nat.reduceEqDiff, reduceIte, o3, hcs, beq48 (St.l_length s) (St.l_length s), T3, T38, T47, T48] <;> rfl)))
    repeat (first
      | refine R_seq ?_ | refine R_region ?_ | refine R_nil ?_ | refine Q_seq ?_ | refine Q_norm ?_ | refine Q_seqr ?_ | refine Q_seqx ?_ | refine Q_bl ?_ | refine Q_blr ?_ | refine Q_blx ?_ | refine Q_blo rfl ?_ | refine R_block ?_ | refine R_skip ?_ | refine R_exit ?_ | refine R_ret ?_ | refine I_true ?_ | refine I_false ?_ | refine N_exit ?_ | refine N_ret ?_
      | ((first | apply R_op | apply R_op0)
         · (first | (simp (maxDischargeDepth := 9) only [RA, Nat.reduceEqDiff, Nat.reduceLT, Nat.reduceLeDiff, Nat.reduceAdd, Nat.reduceSub, Nat.reduceMul, Nat.reduceDiv, Nat.reduceMod, Nat.reducePow, Nat.reduceBEq, Nat.reduceGT, reduceIte, T3, T38, T47, T48] <;> rfl) | ((repeat (first | (simp (maxDischargeDepth := 9) only [RA, Nat.reduceEqDiff, Nat.reduceLT, Nat.reduceLeDiff, Nat.reduceAdd, Nat.reduceSub, Nat.reduceMul, Nat.reduceDiv, Nat.reduceMod, Nat.reducePow, Nat.reduceBEq, Nat.reduceGT, reduceIte, T3, T38, T47, T48]; done) | simp (maxDischargeDepth := 9) only [RA, Nat.reduceEqDiff, Nat.reduceLT, Nat.reduceLeDiff, Nat.reduceAdd, Nat.reduceSub, Nat.reduceMul, Nat.reduceDiv, Nat.reduceMod, Nat.reducePow, Nat.reduceBEq, Nat.reduceGT, reduceIte, T3, T38, T47, T48] | simp (disch := first | assumption | omega) only [RV, T3, T38, T47, T48])) <;> rfl)))
      | (apply R_cond
         · (simp only [RE, Nat.reduceEqDiff, Nat.reduceLT, Nat.reduceLeDiff, Nat.reduceBEq, reduceIte, T3, T38, T47, T48] <;> rfl))
      | (apply R_grd
         · (simp only [yieldedA, RY, Nat.reduceEqDiff, reduceIte, T3, T38, T47, T48] <;> rfl)))
    (first | refine ⟨.inr rfl, _, rfl, ?_⟩ | refine ⟨.inl rfl, _, rfl, ?_⟩) <;> simp only [packR, upd_apply, Nat.reduceEqDiff, if_true, if_false, reduceIte]
  · repeat (first
    | refine R_seq ?_ | refine R_region ?_ | refine R_nil ?_ | refine Q_seq ?_ | refine Q_norm ?_ | refine Q_seqr ?_ | refine Q_seqx ?_ | refine Q_bl ?_ | refine Q_blr ?_ | refine Q_blx ?_ | refine Q_blo rfl ?_ | refine R_block ?_ | refine R_skip ?_ | refine R_exit ?_ | refine R_ret ?_ | refine I_true ?_ | refine I_false ?_ | refine N_exit ?_ | refine N_ret ?_
    | ((first | apply R_op | apply R_op0)
       · (first | (simp (maxDischargeDepth := 9) only [RA, Nat.reduceEqDiff, Nat.reduceLT, Nat.reduceLeDiff, Nat.reduceAdd, Nat.reduceSub, Nat.reduceMul, Nat.reduceDiv, Nat.reduceMod, Nat.reducePow, Nat.reduceBEq, Nat.reduceGT, reduceIte, S38len b1, h64, T3, T38, T47, T48] <;> rfl) | ((repeat (first | (simp (maxDischargeDepth := 9) only [RA, Nat.reduceEqDiff, Nat.reduceLT, Nat.reduceLeDiff, Nat.reduceAdd, Nat.reduceSub, Nat.reduceMul, Nat.reduceDiv, Nat.reduceMod, Nat.reducePow, Nat.reduceBEq, Nat.reduceGT, reduceIte, S38len b1, h64, T3, T38, T47, T48]; done) | simp (maxDischargeDepth := 9) only [RA, Nat.reduceEqDiff, Nat.reduceLT, Nat.reduceLeDiff, Nat.reduceAdd, Nat.reduceSub, Nat.reduceMul, Nat.reduceDiv, Nat.reduceMod, Nat.reducePow, Nat.reduceBEq, Nat.reduceGT, reduceIte, S38len b1, h64, T3, T38, T47, T48] | simp (disch := first | assumption | omega) only [RV, S38len b1, h64, T3, T38, T47, T48])) <;> rfl)))
    | (apply R_cond
       · (simp only [RE, Nat.reduceEqDiff, Nat.reduceLT, Nat.reduceLeDiff, Nat.reduceBEq, reduceIte, S38len b1, h64, T3, T38, T47, T48] <;> rfl))
    | (apply R_grd
       · (simp only [yieldedA, RY, Nat.reduceEqDiff, reduceIte, S38len b1, h64, T3, T38, T47, T48] <;> rfl)))
    refine D_draw [0, 2, 4, 5] (fun _ => True) (by kernel_rfl) ?_
    repeat (first
      | refine D_nil ?_ | refine I_true ?_ | refine I_false ?_
      | ((first | apply D_op | apply D_op0)
         · (first | (simp (maxDischargeDepth := 9) only [RA, Nat.reduceEqDiff, Nat.reduceLT, Nat.reduceLeDiff, Nat.reduceAdd, Nat.reduceSub, Nat.reduceMul, Nat.reduceDiv, Nat.reduceMod, Nat.reducePow, Nat.reduceBEq, Nat.reduceGT, reduceIte, live51 3, o0, hcs, T3, T38, T47, T48] <;> rfl) | ((repeat (first | (simp (maxDischargeDepth := 9) only [RA, Nat.reduceEqDiff, Nat.reduceLT, Nat.reduceLeDiff, Nat.reduceAdd, Nat.reduceSub, Nat.reduceMul, Nat.reduceDiv, Nat.reduceMod, Nat.reducePow, Nat.reduceBEq, Nat.reduceGT, reduceIte, live51 3, o0, hcs, T3, T38, T47, T48]; done) | simp (maxDischargeDepth := 9) only [RA, Nat.reduceEqDiff, Nat.reduceLT, Nat.reduceLeDiff, Nat.reduceAdd, Nat.reduceSub, Nat.reduceMul, Nat.reduceDiv, Nat.reduceMod, Nat.reducePow, Nat.reduceBEq, Nat.reduceGT, reduceIte, live51 3, o0, hcs, T3, T38, T47, T48] | simp (disch := first | assumption | omega) only [RV, live51 3, o0, hcs, T3, T38, T47, T48])) <;> rfl))
         · (intro hF; first | exact chk_pure rfl | exact chk_alloc rfl | exact chk_read rfl | exact chk_iso iso51 | exact chk_call iso51 (fun _ _ _ => rfl) | exact chk_iso iso58 | exact chk_call iso58 (fun _ _ _ => rfl) | (exfalso; revert hF; decide) | ((first | refine chk_load ?_ | refine chk_slice ?_ | refine chk_convert ?_ | refine chk_store ?_ | refine chk_call (by kernel_rfl) ?_); simp only [eq_self, ev_tmp, upd_apply, rowsOfV, List.mem_cons, List.not_mem_nil, or_false, forall_eq, forall_eq_or_imp, obj_put, obj_new, nx_new, nx_put, Nat.reduceEqDiff, if_true, if_false, reduceIte, implies_true, and_self, and_true, true_or, or_true, live51 3, o0, hcs, T3, T38, T47, T48])))
      | (apply D_grd
         · (simp only [yieldedA, RY, Nat.reduceEqDiff, reduceIte, live51 3, o0, hcs, T3, T38, T47, T48] <;> rfl)))
    refine D_fn ?_ (tail _ _ H h64 b1 o0 n0) iso58 (fun v4 h4 hp _ r _ hr => hp.2.2.2 r hr) ?_
    · rfl
    intro v3 h3 ⟨hv3, o3, F3⟩
    subst hv3
    repeat (first
      | refine D_nil ?_ | refine I_true ?_ | refine I_false ?_
      | ((first | apply D_op | apply D_op0)
         · (first | (simp (maxDischargeDepth := 9) only [RA, Nat.reduceEqDiff, Nat.reduceLT, Nat.reduceLeDiff, Nat.reduceAdd, Nat.reduceSub, Nat.reduceMul, Nat.reduceDiv, Nat.reduceMod, Nat.reducePow, Nat.reduceBEq, Nat.reduceGT, reduceIte, o3, hcs, beq48 (St.l_length s) (St.l_length s), T3, T38, T47, T48] <;> rfl) | ((repeat (first | (simp (maxDischargeDepth := 9) only [RA, Nat.reduceEqDiff, Nat.reduceLT, Nat.reduceLeDiff, Nat.reduceAdd, Nat.reduceSub, Nat.reduceMul, Nat.reduceDiv, Nat.reduceMod, Nat.reducePow, Nat.reduceBEq, Nat.reduceGT, reduceIte, o3, hcs, beq48 (St.l_length s) (St.l_length s), T3, T38, T47, T48]; done) | simp (maxDischargeDepth := 9) only [RA, Nat.reduceEqDiff, Nat.reduceLT, Nat.reduceLeDiff, Nat.reduceAdd, Nat.reduceSub, Nat.reduceMul, Nat.reduceDiv, Nat.reduceMod, Nat.reducePow, Nat.reduceBEq, Nat.reduceGT, reduceIte, o3, hcs, beq48 (St.l_length s) (St.l_length s), T3, T38, T47, T48] | simp (disch := first | assumption | omega) only [RV, o3, hcs, beq48 (St.l_length s) (St.l_length s), T3, T38, T47, T48])) <;> rfl))
         · (intro hF; first | exact chk_pure rfl | exact chk_alloc rfl | exact chk_read rfl | exact chk_iso iso51 | exact chk_call iso51 (fun _ _ _ => rfl) | exact chk_iso iso58 | exact chk_call iso58 (fun _ _ _ => rfl) | (exfalso; revert hF; decide) | ((first | refine chk_load ?_ | refine chk_slice ?_ | refine chk_convert ?_ | refine chk_store ?_ | refine chk_call (by kernel_rfl) ?_); simp only [eq_self, ev_tmp, upd_apply, rowsOfV, List.mem_cons, List.not_mem_nil, or_false, forall_eq, forall_eq_or_imp, obj_put, obj_new, nx_new, nx_put, Nat.reduceEqDiff, if_true, if_false, reduceIte, implies_true, and_self, and_true, true_or, or_true, o3, hcs, beq48 (St.l_length s) (St.l_length s), T3, T38, T47, T48])))
      | (apply D_grd
         · (simp only [yieldedA, RY, Nat.reduceEqDiff, reduceIte, o3, hcs, beq48 (St.l_length s) (St.l_length s), T3, T38, T47, T48] <;> rfl)))
    repeat (first
      | refine R_seq ?_ | refine R_region ?_ | refine R_nil ?_ | refine Q_seq ?_ | refine Q_norm ?_ | refine Q_seqr ?_ | refine Q_seqx ?_ | refine Q_bl ?_ | refine Q_blr ?_ | refine Q_blx ?_ | refine Q_blo rfl ?_ | refine R_block ?_ | refine R_skip ?_ | refine R_exit ?_ | refine R_ret ?_ | refine I_true ?_ | refine I_false ?_ | refine N_exit ?_ | refine N_ret ?_
      | ((first | apply R_op | apply R_op0)
         · (first | (simp (maxDischargeDepth := 9) only [RA, Nat.reduceEqDiff, Nat.reduceLT, Nat.reduceLeDiff, Nat.reduceAdd, Nat.reduceSub, Nat.reduceMul, Nat.reduceDiv, Nat.reduceMod, Nat.reducePow, Nat.reduceBEq, Nat.reduceGT, reduceIte, T3, T38, T47, T48] <;> rfl) | ((repeat (first | (simp (maxDischargeDepth := 9) only [RA, Nat.reduceEqDiff, Nat.reduceLT, Nat.reduceLeDiff, Nat.reduceAdd, Nat.reduceSub, Nat.reduceMul, Nat.reduceDiv, Nat.reduceMod, Nat.reducePow, Nat.reduceBEq, Nat.reduceGT, reduceIte, T3, T38, T47, T48]; done) | simp (maxDischargeDepth := 9) only [RA, Nat.reduceEqDiff, Nat.reduceLT, Nat.reduceLeDiff, Nat.reduceAdd, Nat.reduceSub, Nat.reduceMul, Nat.reduceDiv, Nat.reduceMod, Nat.reducePow, Nat.reduceBEq, Nat.reduceGT, reduceIte, T3, T38, T47, T48] | simp (disch := first | assumption | omega) only [RV, T3, T38, T47, T48])) <;> rfl)))
      | (apply R_cond
         · (simp only [RE, Nat.reduceEqDiff, Nat.reduceLT, Nat.reduceLeDiff, Nat.reduceBEq, reduceIte, T3, T38, T47, T48] <;> rfl))
      | (apply R_grd
         · (simp only [yieldedA, RY, Nat.reduceEqDiff, reduceIte, T3, T38, T47, T48] <;> rfl)))
    (first | refine ⟨.inr rfl, _, rfl, ?_⟩ | refine ⟨.inl rfl, _, rfl, ?_⟩) <;> simp only [packR, upd_apply, Nat.reduceEqDiff, if_true, if_false, reduceIte]
end Go.Proofs.Ytfehhihllenjiaa
