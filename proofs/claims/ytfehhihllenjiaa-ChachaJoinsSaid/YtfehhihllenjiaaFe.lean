/- The statements of the stream: blocks; a quarter undone. -/
import Derived.Test.YtfehhihllenjiaaFd
import Derived.Test.YtfehhihllenjiaaC5
set_option linter.all false
namespace Go.Proofs.Ytfehhihllenjiaa
open Go.Proofs
theorem eqg33 : Try.prog.eqGuardType Try.prog.depth 33 = false := by kernel_rfl
theorem beq33 {l : Bool} {xs ys : List (BitVec 8)} (hx : xs.length = 64) (hy : ys.length = 64) : evBin Try.prog .eql 33 l (.agg ⟨b8 xs⟩) (.agg ⟨b8 ys⟩) = some (.bool (decide (xs = ys))) := by
  have h := fun m => eq_row (f := w8) 0#8 Try.underlying33 Try.underlying5 rfl inf5 rfl (fun m x y => eq_w8 Try.underlying5 m x y) hx hy m
  have e1 : eqOk Try.prog 33 l (.agg ⟨b8 xs⟩) (.agg ⟨b8 ys⟩) = true := by
    show (!Try.prog.eqGuardType Try.prog.depth 33) = true
    rw [eqg33]; rfl
  simp only [evBin, e1, if_true]
  have e2 : evEq Try.prog Op.maxDepth 33 (.agg ⟨b8 xs⟩) (.agg ⟨b8 ys⟩) = some (decide (xs = ys)) := h (Op.maxDepth - 2)
  rw [e2]; rfl
theorem eqg23 : Try.prog.eqGuardType Try.prog.depth 23 = false := by kernel_rfl
theorem beq23 {l : Bool} {xs ys : List (BitVec 32)} (hx : xs.length = 4) (hy : ys.length = 4) : evBin Try.prog .eql 23 l (.agg ⟨b32 xs⟩) (.agg ⟨b32 ys⟩) = some (.bool (decide (xs = ys))) := by
  have h := fun m => eq_row (f := w32) 0#32 Try.underlying23 Try.underlying22 rfl inf22 rfl (fun m x y => eq_w32 Try.underlying22 m x y) hx hy m
  have e1 : eqOk Try.prog 23 l (.agg ⟨b32 xs⟩) (.agg ⟨b32 ys⟩) = true := by
    show (!Try.prog.eqGuardType Try.prog.depth 23) = true
    rw [eqg23]; rfl
  simp only [evBin, e1, if_true]
  have e2 : evEq Try.prog Op.maxDepth 23 (.agg ⟨b32 xs⟩) (.agg ⟨b32 ys⟩) = some (decide (xs = ys)) := h (Op.maxDepth - 2)
  rw [e2]; rfl
theorem bu23 (a b c d : BitVec 32) : evBuild Try.prog 23 [(0, w32 a), (1, w32 b), (2, w32 c), (3, w32 d)] = some (.agg ⟨b32 [a, b, c, d]⟩) := by kernel_rfl
theorem cut23 (a b c d : BitVec 32) : cutV (some (.row .rw 1 [w32 a, w32 b, w32 c, w32 d])) 0 4 = some (.agg ⟨b32 [a, b, c, d]⟩) := rfl
theorem rot_inv (x : BitVec 32) (k : Nat) (hk : k < 32) (h0 : 0 < k) : (x.rotateLeft k).rotateLeft (32 - k) = x := by
  ext i hi
  simp only [BitVec.getElem_rotateLeft, Nat.mod_eq_of_lt hk, Nat.mod_eq_of_lt (show 32 - k < 32 by omega)]
  split <;> split <;> first | omega | (congr 1; omega)
theorem add_sub_w (a b : BitVec 32) : a + b - b = a := by rw [BitVec.sub_eq_add_neg, BitVec.add_assoc, BitVec.add_right_neg, BitVec.add_zero]
theorem undo (x y : BitVec 32) (k m : Nat) (hk : k < 32) (h0 : 0 < k) (hm : m = 32 - k) : ((x ^^^ y).rotateLeft k).rotateLeft m ^^^ y = x := by
  subst hm
  rw [rot_inv _ k hk h0, BitVec.xor_assoc, BitVec.xor_self, BitVec.xor_zero]
attribute [local irreducible] evOps iter evD evF evC evLoad evStore evAlloc evIndexAddr evIndex evLenB evBox evBin evUn evConvert evExtract evSlice evAppend evCopy evNil evBuild Program.underlying
theorem law4 (a b c d : BitVec 32) (h : Heap) : ∃ v h', evF (cfg0 Try.prog) 6 4 [.agg #[w32 a, w32 b, w32 c, w32 d]] h = some (.ok v, h') ∧ v = .bool true := by
  rw [evF_eq Try.func4 rfl]
  apply evEnd_of_W
  simp only [Try.f4]
  repeat (first
    | refine R_seq ?_ | refine R_region ?_ | refine R_nil ?_ | refine Q_seq ?_ | refine Q_norm ?_ | refine Q_seqr ?_ | refine Q_seqx ?_ | refine Q_bl ?_ | refine Q_blr ?_ | refine Q_blx ?_ | refine Q_blo rfl ?_ | refine R_block ?_ | refine R_skip ?_ | refine R_exit ?_ | refine R_ret ?_ | refine I_true ?_ | refine I_false ?_ | refine N_exit ?_ | refine N_ret ?_
    | (refine R_draw (by kernel_rfl) ?_)
    | ((first | apply R_op | apply R_op0)
       · (first | (simp (maxDischargeDepth := 9) only [RA, Nat.reduceEqDiff, Nat.reduceLT, Nat.reduceLeDiff, Nat.reduceAdd, Nat.reduceSub, Nat.reduceMul, Nat.reduceDiv, Nat.reduceMod, Nat.reducePow, Nat.reduceBEq, Nat.reduceGT, reduceIte, T22, T23, quarter_ev, left44 _ _ _ (by decide : 25 < 32), left44 _ _ _ (by decide : 24 < 32), left44 _ _ _ (by decide : 20 < 32), left44 _ _ _ (by decide : 16 < 32), q4, live43n 0, bu23, cut23, beq23 (xs := [_, _, _, _]) (ys := [_, _, _, _]) rfl rfl, T1, T2, T3] <;> rfl) | ((repeat (first | (simp (maxDischargeDepth := 9) only [RA, Nat.reduceEqDiff, Nat.reduceLT, Nat.reduceLeDiff, Nat.reduceAdd, Nat.reduceSub, Nat.reduceMul, Nat.reduceDiv, Nat.reduceMod, Nat.reducePow, Nat.reduceBEq, Nat.reduceGT, reduceIte, T22, T23, quarter_ev, left44 _ _ _ (by decide : 25 < 32), left44 _ _ _ (by decide : 24 < 32), left44 _ _ _ (by decide : 20 < 32), left44 _ _ _ (by decide : 16 < 32), q4, live43n 0, bu23, cut23, beq23 (xs := [_, _, _, _]) (ys := [_, _, _, _]) rfl rfl, T1, T2, T3]; done) | simp (maxDischargeDepth := 9) only [RA, Nat.reduceEqDiff, Nat.reduceLT, Nat.reduceLeDiff, Nat.reduceAdd, Nat.reduceSub, Nat.reduceMul, Nat.reduceDiv, Nat.reduceMod, Nat.reducePow, Nat.reduceBEq, Nat.reduceGT, reduceIte, T22, T23, quarter_ev, left44 _ _ _ (by decide : 25 < 32), left44 _ _ _ (by decide : 24 < 32), left44 _ _ _ (by decide : 20 < 32), left44 _ _ _ (by decide : 16 < 32), q4, live43n 0, bu23, cut23, beq23 (xs := [_, _, _, _]) (ys := [_, _, _, _]) rfl rfl, T1, T2, T3] | simp (disch := first | assumption | omega) only [RV, T22, T23, quarter_ev, left44 _ _ _ (by decide : 25 < 32), left44 _ _ _ (by decide : 24 < 32), left44 _ _ _ (by decide : 20 < 32), left44 _ _ _ (by decide : 16 < 32), q4, live43n 0, bu23, cut23, beq23 (xs := [_, _, _, _]) (ys := [_, _, _, _]) rfl rfl, T1, T2, T3])) <;> rfl)))
    | (apply R_cond
       · (simp only [RE, Nat.reduceEqDiff, Nat.reduceLT, Nat.reduceLeDiff, Nat.reduceBEq, reduceIte, T22, T23, quarter_ev, left44 _ _ _ (by decide : 25 < 32), left44 _ _ _ (by decide : 24 < 32), left44 _ _ _ (by decide : 20 < 32), left44 _ _ _ (by decide : 16 < 32), q4, live43n 0, bu23, cut23, beq23 (xs := [_, _, _, _]) (ys := [_, _, _, _]) rfl rfl, T1, T2, T3] <;> rfl))
    | (apply R_grd
       · (simp only [yieldedA, RY, Nat.reduceEqDiff, reduceIte, T22, T23, quarter_ev, left44 _ _ _ (by decide : 25 < 32), left44 _ _ _ (by decide : 24 < 32), left44 _ _ _ (by decide : 20 < 32), left44 _ _ _ (by decide : 16 < 32), q4, live43n 0, bu23, cut23, beq23 (xs := [_, _, _, _]) (ys := [_, _, _, _]) rfl rfl, T1, T2, T3] <;> rfl)))
  (first | refine ⟨.inr rfl, _, rfl, ?_⟩ | refine ⟨.inl rfl, _, rfl, ?_⟩) <;> simp only [packR, upd_apply, Nat.reduceEqDiff, if_true, if_false, reduceIte]
  congr 1
  rw [decide_eq_true_eq]
  simp only [quarter, undo _ _ 7 25 (by decide) (by decide) rfl, undo _ _ 8 24 (by decide) (by decide) rfl, undo _ _ 12 20 (by decide) (by decide) rfl, undo _ _ 16 16 (by decide) (by decide) rfl, add_sub_w]
theorem law5 (k n' : List (BitVec 8)) (hk : k.length = 32) (hn : n'.length = 12) (c : BitVec 32) (h : Heap) : ∃ v h', evF (cfg0 Try.prog) 9 5 [.agg ⟨b8 k⟩, .agg ⟨b8 n'⟩, w32 c] h = some (.ok v, h') ∧ v = .bool true := by
  rw [evF_eq Try.func5 rfl]
  apply evEnd_of_W
  simp only [Try.f5]
  repeat (first
    | refine R_seq ?_ | refine R_region ?_ | refine R_nil ?_ | refine Q_seq ?_ | refine Q_norm ?_ | refine Q_seqr ?_ | refine Q_seqx ?_ | refine Q_bl ?_ | refine Q_blr ?_ | refine Q_blx ?_ | refine Q_blo rfl ?_ | refine R_block ?_ | refine R_skip ?_ | refine R_exit ?_ | refine R_ret ?_ | refine I_true ?_ | refine I_false ?_ | refine N_exit ?_ | refine N_ret ?_
    | (refine R_draw (by kernel_rfl) ?_)
    | ((first | apply R_op | apply R_op0)
       · (first | (simp (maxDischargeDepth := 9) only [RA, Nat.reduceEqDiff, Nat.reduceLT, Nat.reduceLeDiff, Nat.reduceAdd, Nat.reduceSub, Nat.reduceMul, Nat.reduceDiv, Nat.reduceMod, Nat.reducePow, Nat.reduceBEq, Nat.reduceGT, reduceIte, T30, T32, T33, T22, cut8 hk, cut8 hn, live43n 3, block45 2 k n' hk hn c, block46 3 k n' hk hn c, beq33 (block_length k n' c) (block_length k n' c)] <;> rfl) | ((repeat (first | (simp (maxDischargeDepth := 9) only [RA, Nat.reduceEqDiff, Nat.reduceLT, Nat.reduceLeDiff, Nat.reduceAdd, Nat.reduceSub, Nat.reduceMul, Nat.reduceDiv, Nat.reduceMod, Nat.reducePow, Nat.reduceBEq, Nat.reduceGT, reduceIte, T30, T32, T33, T22, cut8 hk, cut8 hn, live43n 3, block45 2 k n' hk hn c, block46 3 k n' hk hn c, beq33 (block_length k n' c) (block_length k n' c)]; done) | simp (maxDischargeDepth := 9) only [RA, Nat.reduceEqDiff, Nat.reduceLT, Nat.reduceLeDiff, Nat.reduceAdd, Nat.reduceSub, Nat.reduceMul, Nat.reduceDiv, Nat.reduceMod, Nat.reducePow, Nat.reduceBEq, Nat.reduceGT, reduceIte, T30, T32, T33, T22, cut8 hk, cut8 hn, live43n 3, block45 2 k n' hk hn c, block46 3 k n' hk hn c, beq33 (block_length k n' c) (block_length k n' c)] | simp (disch := first | assumption | omega) only [RV, T30, T32, T33, T22, cut8 hk, cut8 hn, live43n 3, block45 2 k n' hk hn c, block46 3 k n' hk hn c, beq33 (block_length k n' c) (block_length k n' c)])) <;> rfl)))
    | (apply R_cond
       · (simp only [RE, Nat.reduceEqDiff, Nat.reduceLT, Nat.reduceLeDiff, Nat.reduceBEq, reduceIte, T30, T32, T33, T22, cut8 hk, cut8 hn, live43n 3, block45 2 k n' hk hn c, block46 3 k n' hk hn c, beq33 (block_length k n' c) (block_length k n' c)] <;> rfl))
    | (apply R_grd
       · (simp only [yieldedA, RY, Nat.reduceEqDiff, reduceIte, T30, T32, T33, T22, cut8 hk, cut8 hn, live43n 3, block45 2 k n' hk hn c, block46 3 k n' hk hn c, beq33 (block_length k n' c) (block_length k n' c)] <;> rfl)))
  (first | refine ⟨.inr rfl, _, rfl, ?_⟩ | refine ⟨.inl rfl, _, rfl, ?_⟩) <;> simp only [packR, upd_apply, Nat.reduceEqDiff, if_true, if_false, reduceIte, eq_self, decide_true]
theorem wl4 (h : Heap) (avs : List Value) (ty : TyVs Try.prog 8 h [23] avs) : ∃ v h', evF (cfg0 Try.prog) 6 4 avs h = some (.ok v, h') ∧ v = .bool true := by
  match avs, ty with
  | [v], ⟨s0, _⟩ =>
    obtain ⟨cs, rfl, t0⟩ := tyv_agg Try.underlying23 rfl s0
    obtain ⟨xs, hl, rfl⟩ := ty_arr32 (d := 6) Try.underlying23 Try.underlying22 (by kernel_rfl) (by kernel_rfl) t0
    match xs, hl with
    | [a, b, c, d], _ => exact law4 a b c d h
end Go.Proofs.Ytfehhihllenjiaa
