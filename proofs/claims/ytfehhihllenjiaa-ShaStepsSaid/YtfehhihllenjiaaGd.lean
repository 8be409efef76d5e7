/- The statements of the stream: bytes. -/
import Derived.Test.YtfehhihllenjiaaGb
import Derived.Test.YtfehhihllenjiaaGc
import Derived.Test.YtfehhihllenjiaaC6
set_option linter.all false
namespace Go.Proofs.Ytfehhihllenjiaa
open Go.Proofs
theorem cells30 : Try.prog.cellsOf 30 = 32 := by kernel_rfl
theorem cells32 : Try.prog.cellsOf 32 = 12 := by kernel_rfl
theorem cells22 : Try.prog.cellsOf 22 = 1 := by kernel_rfl
theorem cells5 : Try.prog.cellsOf 5 = 1 := by kernel_rfl
theorem cells37 : Try.prog.cellsOf 37 = 45 := by kernel_rfl
def askL (k n : List (BitVec 8)) (c : BitVec 32) : List Value := b8 k ++ (b8 n ++ [w32 c])
set_option maxRecDepth 20000 in
theorem ty30 {h : Heap} {d : Nat} {cs : List Value} (s : TyL Try.prog (d + 2) h 30 cs) : ∃ k : List (BitVec 8), k.length = 32 ∧ cs = b8 k := ty_arr8 Try.underlying30 Try.underlying5 cells5 cells30 s
set_option maxRecDepth 20000 in
theorem ty32 {h : Heap} {d : Nat} {cs : List Value} (s : TyL Try.prog (d + 2) h 32 cs) : ∃ k : List (BitVec 8), k.length = 12 ∧ cs = b8 k := ty_arr8 Try.underlying32 Try.underlying5 cells5 cells32 s
theorem ty_field {P : Program} {h : Heap} {d i u o n : Nat} {t : TypeId} {fs : Array Field} {f : Field} {cs : List Value} (hu : P.underlying t = some (.struct fs)) (hf : fs[i]? = some f) (ht : f.type = u) (ho : f.offset = o) (hs : P.cellsOf u = n) (s : TyL P (d + 1) h t cs) :
    TyL P d h u ((cs.drop o).take n) := by
  unfold TyL at s; rw [hu] at s
  subst ht ho hs
  exact s.2 i f hf
theorem ty_len {P : Program} {h : Heap} {d n : Nat} {t : TypeId} {fs : Array Field} {cs : List Value} (hu : P.underlying t = some (.struct fs)) (hs : P.cellsOf t = n) (s : TyL P (d + 1) h t cs) : cs.length = n := by
  unfold TyL at s; rw [hu] at s
  rw [← hs]; exact s.1
set_option maxRecDepth 20000 in
theorem ty37 {h : Heap} {d : Nat} {cs : List Value} (s : TyL Try.prog (d + 3) h 37 cs) : ∃ k n c, k.length = 32 ∧ n.length = 12 ∧ cs = askL k n c := by
  have hl := ty_len Try.underlying37 cells37 s
  obtain ⟨k, hk, e0⟩ := ty30 (d := d) (ty_field (i := 0) (u := 30) (o := 0) Try.underlying37 rfl rfl rfl cells30 s)
  obtain ⟨n, hn, e1⟩ := ty32 (d := d) (ty_field (i := 1) (u := 32) (o := 32) Try.underlying37 rfl rfl rfl cells32 s)
  obtain ⟨c, e2⟩ := ty_u32 (d := d + 1) Try.underlying22 (ty_field (i := 2) (u := 22) (o := 44) Try.underlying37 rfl rfl rfl cells22 s)
  refine ⟨k, n, c, hk, hn, ?_⟩
  unfold askL
  rw [← e0, ← e1, ← e2, List.drop_zero]
  have h1 : cs = cs.take 32 ++ cs.drop 32 := by simp
  have h2 : cs.drop 32 = (cs.drop 32).take 12 ++ (cs.drop 44).take 1 := by
    have : (cs.drop 44).take 1 = cs.drop 44 := List.take_of_length_le (by simp; omega)
    rw [this, show cs.drop 44 = (cs.drop 32).drop 12 by rw [List.drop_drop], List.take_append_drop]
  rw [← h2]; exact h1
section
variable {k n : List (BitVec 8)} {c : BitVec 32} {kd : Kind} {es : Nat} {h : Heap}
theorem ask_box : evBox (.agg ⟨askL k n c⟩) h = some (.pointer (some ⟨h.nx, 0, none⟩), newRowH h .rw 1 (askL k n c)) := box_agg (by
  unfold askL
  simp only [List.all_append, b8_one, List.all_cons, List.all_nil, Bool.and_true, Bool.true_and]; rfl)
theorem ask_cut0 (hk : k.length = 32) : cutV (some (.row kd es (askL k n c))) 0 32 = some (.agg ⟨b8 k⟩) := by
  rw [cutV_row, if_pos (by simp [askL, b8]; omega)]
  unfold askL
  rw [List.drop_zero, List.take_append_of_le_length (by rw [b8_length]; omega), List.take_of_length_le (by rw [b8_length]; omega)]
theorem ask_cut1 (hk : k.length = 32) (hn : n.length = 12) : cutV (some (.row kd es (askL k n c))) 32 12 = some (.agg ⟨b8 n⟩) := by
  rw [cutV_row, if_pos (by simp [askL, b8]; omega)]
  unfold askL
  rw [List.drop_append_of_le_length (by rw [b8_length]; omega), List.drop_of_length_le (by rw [b8_length]; omega), List.nil_append, List.take_append_of_le_length (by rw [b8_length]; omega), List.take_of_length_le (by rw [b8_length]; omega)]
theorem ask_cell (hk : k.length = 32) (hn : n.length = 12) : cellV (some (.row kd es (askL k n c))) 44 = some (w32 c) := by
  rw [cellV_row]
  unfold askL
  rw [List.getElem?_append_right (by rw [b8_length]; omega), List.getElem?_append_right (by rw [b8_length, b8_length]; omega)]
  simp [b8_length, hk, hn]
end
attribute [local irreducible] evOps iter evD evF evC evLoad evStore evAlloc evIndexAddr evIndex evLenB evBox evBin evUn evConvert evExtract evSlice evAppend evCopy evNil evBuild evMakeSlice evBuildSlice evBuiltin Program.underlying
attribute [local irreducible] block xorS askL
set_option maxRecDepth 20000 in
set_option maxHeartbeats 8000000 in
theorem law7 (k n' : List (BitVec 8)) (hk : k.length = 32) (hn : n'.length = 12) (c : BitVec 32) (h : Heap) (v : Value) (b : List (BitVec 8)) (hb : By h v b) : ∃ v1 h1, evF (cfg0 Try.prog) 9 7 [.agg ⟨askL k n' c⟩, v] h = some (.ok v1, h1) ∧ v1 = .bool true := by
  rw [evF_eq Try.func7 rfl]
  apply evEnd_of_W
  simp only [Try.f7]
  repeat (first
    | refine R_seq ?_ | refine R_region ?_ | refine R_nil ?_ | refine Q_seq ?_ | refine Q_norm ?_ | refine Q_seqr ?_ | refine Q_seqx ?_ | refine Q_bl ?_ | refine Q_blr ?_ | refine Q_blx ?_ | refine Q_blo rfl ?_ | refine R_block ?_ | refine R_skip ?_ | refine R_exit ?_ | refine R_ret ?_ | refine I_true ?_ | refine I_false ?_ | refine N_exit ?_ | refine N_ret ?_
    | (refine R_draw (by kernel_rfl) ?_)
    | ((first | apply R_op | apply R_op0)
       · (first | (simp (maxDischargeDepth := 9) only [RA, Nat.reduceEqDiff, Nat.reduceLT, Nat.reduceLeDiff, Nat.reduceAdd, Nat.reduceSub, Nat.reduceMul, Nat.reduceDiv, Nat.reduceMod, Nat.reducePow, Nat.reduceBEq, Nat.reduceGT, reduceIte, ask_box, T1, T2, T3, T9, T22, T30, T32, T37, T38] <;> rfl) | ((repeat (first | (simp (maxDischargeDepth := 9) only [RA, Nat.reduceEqDiff, Nat.reduceLT, Nat.reduceLeDiff, Nat.reduceAdd, Nat.reduceSub, Nat.reduceMul, Nat.reduceDiv, Nat.reduceMod, Nat.reducePow, Nat.reduceBEq, Nat.reduceGT, reduceIte, ask_box, T1, T2, T3, T9, T22, T30, T32, T37, T38]; done) | simp (maxDischargeDepth := 9) only [RA, Nat.reduceEqDiff, Nat.reduceLT, Nat.reduceLeDiff, Nat.reduceAdd, Nat.reduceSub, Nat.reduceMul, Nat.reduceDiv, Nat.reduceMod, Nat.reducePow, Nat.reduceBEq, Nat.reduceGT, reduceIte, ask_box, T1, T2, T3, T9, T22, T30, T32, T37, T38] | simp (disch := first | assumption | omega) only [RV, ask_box, T1, T2, T3, T9, T22, T30, T32, T37, T38])) <;> rfl)))
    | (apply R_cond
       · (simp only [RE, Nat.reduceEqDiff, Nat.reduceLT, Nat.reduceLeDiff, Nat.reduceBEq, reduceIte, ask_box, T1, T2, T3, T9, T22, T30, T32, T37, T38] <;> rfl))
    | (apply R_grd
       · (simp only [yieldedA, RY, Nat.reduceEqDiff, reduceIte, ask_box, T1, T2, T3, T9, T22, T30, T32, T37, T38] <;> rfl)))
  have hb1 : By (newRowH h .rw 1 (askL k n' c)) v b := hb.fr0 (Fr.new (.refl _ _) (Nat.le_refl _) _ _ _)
  obtain ⟨v2, e2, b2, r2⟩ := few47 7 _ v b 500 hb1
  repeat (first
    | refine R_seq ?_ | refine R_region ?_ | refine R_nil ?_ | refine Q_seq ?_ | refine Q_norm ?_ | refine Q_seqr ?_ | refine Q_seqx ?_ | refine Q_bl ?_ | refine Q_blr ?_ | refine Q_blx ?_ | refine Q_blo rfl ?_ | refine R_block ?_ | refine R_skip ?_ | refine R_exit ?_ | refine R_ret ?_ | refine I_true ?_ | refine I_false ?_ | refine N_exit ?_ | refine N_ret ?_
    | (refine R_draw (by kernel_rfl) ?_)
    | ((first | apply R_op | apply R_op0)
       · (first | (simp (maxDischargeDepth := 9) only [RA, Nat.reduceEqDiff, Nat.reduceLT, Nat.reduceLeDiff, Nat.reduceAdd, Nat.reduceSub, Nat.reduceMul, Nat.reduceDiv, Nat.reduceMod, Nat.reducePow, Nat.reduceBEq, Nat.reduceGT, reduceIte, e2, ask_cut0 hk, ask_cut1 hk hn, ask_cell hk hn, T1, T2, T3, T9, T22, T30, T32, T37, T38] <;> rfl) | ((repeat (first | (simp (maxDischargeDepth := 9) only [RA, Nat.reduceEqDiff, Nat.reduceLT, Nat.reduceLeDiff, Nat.reduceAdd, Nat.reduceSub, Nat.reduceMul, Nat.reduceDiv, Nat.reduceMod, Nat.reducePow, Nat.reduceBEq, Nat.reduceGT, reduceIte, e2, ask_cut0 hk, ask_cut1 hk hn, ask_cell hk hn, T1, T2, T3, T9, T22, T30, T32, T37, T38]; done) | simp (maxDischargeDepth := 9) only [RA, Nat.reduceEqDiff, Nat.reduceLT, Nat.reduceLeDiff, Nat.reduceAdd, Nat.reduceSub, Nat.reduceMul, Nat.reduceDiv, Nat.reduceMod, Nat.reducePow, Nat.reduceBEq, Nat.reduceGT, reduceIte, e2, ask_cut0 hk, ask_cut1 hk hn, ask_cell hk hn, T1, T2, T3, T9, T22, T30, T32, T37, T38] | simp (disch := first | assumption | omega) only [RV, e2, ask_cut0 hk, ask_cut1 hk hn, ask_cell hk hn, T1, T2, T3, T9, T22, T30, T32, T37, T38])) <;> rfl)))
    | (apply R_cond
       · (simp only [RE, Nat.reduceEqDiff, Nat.reduceLT, Nat.reduceLeDiff, Nat.reduceBEq, reduceIte, e2, ask_cut0 hk, ask_cut1 hk hn, ask_cell hk hn, T1, T2, T3, T9, T22, T30, T32, T37, T38] <;> rfl))
    | (apply R_grd
       · (simp only [yieldedA, RY, Nat.reduceEqDiff, reduceIte, e2, ask_cut0 hk, ask_cut1 hk hn, ask_cell hk hn, T1, T2, T3, T9, T22, T30, T32, T37, T38] <;> rfl)))
  have hbl : (b.take 500).length ≤ 500 := by simp; omega
  generalize b.take 500 = b at b2 hbl
  refine R_fn ?_ (xor48 1 _ k n' hk hn c v2 b b2 (by omega)) ?_
  · rfl
  intro v3 h3 ⟨own3, F3⟩
  have b23 := b2.fr0 F3
  repeat (first
    | refine R_seq ?_ | refine R_region ?_ | refine R_nil ?_ | refine Q_seq ?_ | refine Q_norm ?_ | refine Q_seqr ?_ | refine Q_seqx ?_ | refine Q_bl ?_ | refine Q_blr ?_ | refine Q_blx ?_ | refine Q_blo rfl ?_ | refine R_block ?_ | refine R_skip ?_ | refine R_exit ?_ | refine R_ret ?_ | refine I_true ?_ | refine I_false ?_ | refine N_exit ?_ | refine N_ret ?_
    | ((first | apply R_op | apply R_op0)
       · (first | (simp (maxDischargeDepth := 9) only [RA, Nat.reduceEqDiff, Nat.reduceLT, Nat.reduceLeDiff, Nat.reduceAdd, Nat.reduceSub, Nat.reduceMul, Nat.reduceDiv, Nat.reduceMod, Nat.reducePow, Nat.reduceBEq, Nat.reduceGT, reduceIte, S38len b23, S38ia b23, S38ld b23, S38h b23, S38l b23, S38lh b23, S38n b23, S38hm b23, S38lhm b23, S38str b23, RF, T1, T2, T3, T9, T22, T30, T32, T37, T38] <;> rfl) | ((repeat (first | (simp (maxDischargeDepth := 9) only [RA, Nat.reduceEqDiff, Nat.reduceLT, Nat.reduceLeDiff, Nat.reduceAdd, Nat.reduceSub, Nat.reduceMul, Nat.reduceDiv, Nat.reduceMod, Nat.reducePow, Nat.reduceBEq, Nat.reduceGT, reduceIte, S38len b23, S38ia b23, S38ld b23, S38h b23, S38l b23, S38lh b23, S38n b23, S38hm b23, S38lhm b23, S38str b23, RF, T1, T2, T3, T9, T22, T30, T32, T37, T38]; done) | simp (maxDischargeDepth := 9) only [RA, Nat.reduceEqDiff, Nat.reduceLT, Nat.reduceLeDiff, Nat.reduceAdd, Nat.reduceSub, Nat.reduceMul, Nat.reduceDiv, Nat.reduceMod, Nat.reducePow, Nat.reduceBEq, Nat.reduceGT, reduceIte, S38len b23, S38ia b23, S38ld b23, S38h b23, S38l b23, S38lh b23, S38n b23, S38hm b23, S38lhm b23, S38str b23, RF, T1, T2, T3, T9, T22, T30, T32, T37, T38] | simp (disch := first | assumption | omega) only [RV, S38len b23, S38ia b23, S38ld b23, S38h b23, S38l b23, S38lh b23, S38n b23, S38hm b23, S38lhm b23, S38str b23, RF, T1, T2, T3, T9, T22, T30, T32, T37, T38])) <;> rfl)))
    | (apply R_cond
       · (simp only [RE, Nat.reduceEqDiff, Nat.reduceLT, Nat.reduceLeDiff, Nat.reduceBEq, reduceIte, S38len b23, S38ia b23, S38ld b23, S38h b23, S38l b23, S38lh b23, S38n b23, S38hm b23, S38lhm b23, S38str b23, RF, T1, T2, T3, T9, T22, T30, T32, T37, T38] <;> rfl))
    | (apply R_grd
       · (simp only [yieldedA, RY, Nat.reduceEqDiff, reduceIte, S38len b23, S38ia b23, S38ld b23, S38h b23, S38l b23, S38lh b23, S38n b23, S38hm b23, S38lhm b23, S38str b23, RF, T1, T2, T3, T9, T22, T30, T32, T37, T38] <;> rfl)))
  have o3 : h3.obj h.nx = some (.row .rw 1 (askL k n' c)) := by
    rw [F3.2 _ (by rw [nx_new]; omega)]; simp [obj_new]
  refine D_draw [0, 10, 12, 14, 16, 17, 19] (fun _ => True) (by kernel_rfl) ?_
  repeat (first
    | refine D_nil ?_ | refine I_true ?_ | refine I_false ?_
    | ((first | apply D_op | apply D_op0)
       · (first | (simp (maxDischargeDepth := 9) only [RA, Nat.reduceEqDiff, Nat.reduceLT, Nat.reduceLeDiff, Nat.reduceAdd, Nat.reduceSub, Nat.reduceMul, Nat.reduceDiv, Nat.reduceMod, Nat.reducePow, Nat.reduceBEq, Nat.reduceGT, reduceIte, live43n 3, S38len b23, S38ia b23, S38ld b23, S38h b23, S38l b23, S38lh b23, S38n b23, S38hm b23, S38lhm b23, S38str b23, RF, S38len own3.sl, xorS_length, o3, ask_cut0 hk, ask_cut1 hk hn, ask_cell hk hn, T1, T2, T3, T9, T22, T30, T32, T37, T38] <;> rfl) | ((repeat (first | (simp (maxDischargeDepth := 9) only [RA, Nat.reduceEqDiff, Nat.reduceLT, Nat.reduceLeDiff, Nat.reduceAdd, Nat.reduceSub, Nat.reduceMul, Nat.reduceDiv, Nat.reduceMod, Nat.reducePow, Nat.reduceBEq, Nat.reduceGT, reduceIte, live43n 3, S38len b23, S38ia b23, S38ld b23, S38h b23, S38l b23, S38lh b23, S38n b23, S38hm b23, S38lhm b23, S38str b23, RF, S38len own3.sl, xorS_length, o3, ask_cut0 hk, ask_cut1 hk hn, ask_cell hk hn, T1, T2, T3, T9, T22, T30, T32, T37, T38]; done) | simp (maxDischargeDepth := 9) only [RA, Nat.reduceEqDiff, Nat.reduceLT, Nat.reduceLeDiff, Nat.reduceAdd, Nat.reduceSub, Nat.reduceMul, Nat.reduceDiv, Nat.reduceMod, Nat.reducePow, Nat.reduceBEq, Nat.reduceGT, reduceIte, live43n 3, S38len b23, S38ia b23, S38ld b23, S38h b23, S38l b23, S38lh b23, S38n b23, S38hm b23, S38lhm b23, S38str b23, RF, S38len own3.sl, xorS_length, o3, ask_cut0 hk, ask_cut1 hk hn, ask_cell hk hn, T1, T2, T3, T9, T22, T30, T32, T37, T38] | simp (disch := first | assumption | omega) only [RV, live43n 3, S38len b23, S38ia b23, S38ld b23, S38h b23, S38l b23, S38lh b23, S38n b23, S38hm b23, S38lhm b23, S38str b23, RF, S38len own3.sl, xorS_length, o3, ask_cut0 hk, ask_cut1 hk hn, ask_cell hk hn, T1, T2, T3, T9, T22, T30, T32, T37, T38])) <;> rfl))
       · (intro hF; first | exact chk_pure rfl | exact chk_alloc rfl | exact chk_read rfl | exact chk_iso iso43 | exact chk_call iso43 (fun _ _ _ => rfl) | exact chk_iso iso47 | exact chk_call iso47 (fun _ _ _ => rfl) | exact chk_iso iso48 | exact chk_call iso48 (fun _ _ _ => rfl) | (exfalso; revert hF; decide) | ((first | refine chk_load ?_ | refine chk_slice ?_ | refine chk_convert ?_ | refine chk_store ?_ | refine chk_call (by kernel_rfl) ?_); simp only [eq_self, ev_tmp, upd_apply, rowsOfV, List.mem_cons, List.not_mem_nil, or_false, forall_eq, forall_eq_or_imp, obj_put, obj_new, nx_new, nx_put, Nat.reduceEqDiff, if_true, if_false, reduceIte, implies_true, and_self, and_true, true_or, or_true, live43n 3, S38len b23, S38ia b23, S38ld b23, S38h b23, S38l b23, S38lh b23, S38n b23, S38hm b23, S38lhm b23, S38str b23, RF, S38len own3.sl, xorS_length, o3, ask_cut0 hk, ask_cut1 hk hn, ask_cell hk hn, T1, T2, T3, T9, T22, T30, T32, T37, T38])))
    | (apply D_grd
       · (simp only [yieldedA, RY, Nat.reduceEqDiff, reduceIte, live43n 3, S38len b23, S38ia b23, S38ld b23, S38h b23, S38l b23, S38lh b23, S38n b23, S38hm b23, S38lhm b23, S38str b23, RF, S38len own3.sl, xorS_length, o3, ask_cut0 hk, ask_cut1 hk hn, ask_cell hk hn, T1, T2, T3, T9, T22, T30, T32, T37, T38] <;> rfl)))
  refine D_fn ?_ (xor48 1 _ k n' hk hn c v3 _ own3.sl (by rw [xorS_length]; omega)) iso48 (fun v4 h4 hp _ r _ hr => hp.2.2 r hr) ?_
  · rfl
  intro v4 h4 ⟨own4, F4⟩
  rw [xorS_twice] at own4
  have b24 := b23.fr0 F4
  repeat (first
    | refine D_nil ?_ | refine I_true ?_ | refine I_false ?_
    | ((first | apply D_op | apply D_op0)
       · (first | (simp (maxDischargeDepth := 9) only [RA, Nat.reduceEqDiff, Nat.reduceLT, Nat.reduceLeDiff, Nat.reduceAdd, Nat.reduceSub, Nat.reduceMul, Nat.reduceDiv, Nat.reduceMod, Nat.reducePow, Nat.reduceBEq, Nat.reduceGT, reduceIte, S38str own4.sl, S38str b24, str_eql, RF, T1, T2, T3, T9, T22, T30, T32, T37, T38] <;> rfl) | ((repeat (first | (simp (maxDischargeDepth := 9) only [RA, Nat.reduceEqDiff, Nat.reduceLT, Nat.reduceLeDiff, Nat.reduceAdd, Nat.reduceSub, Nat.reduceMul, Nat.reduceDiv, Nat.reduceMod, Nat.reducePow, Nat.reduceBEq, Nat.reduceGT, reduceIte, S38str own4.sl, S38str b24, str_eql, RF, T1, T2, T3, T9, T22, T30, T32, T37, T38]; done) | simp (maxDischargeDepth := 9) only [RA, Nat.reduceEqDiff, Nat.reduceLT, Nat.reduceLeDiff, Nat.reduceAdd, Nat.reduceSub, Nat.reduceMul, Nat.reduceDiv, Nat.reduceMod, Nat.reducePow, Nat.reduceBEq, Nat.reduceGT, reduceIte, S38str own4.sl, S38str b24, str_eql, RF, T1, T2, T3, T9, T22, T30, T32, T37, T38] | simp (disch := first | assumption | omega) only [RV, S38str own4.sl, S38str b24, str_eql, RF, T1, T2, T3, T9, T22, T30, T32, T37, T38])) <;> rfl))
       · (intro hF; first | exact chk_pure rfl | exact chk_alloc rfl | exact chk_read rfl | exact chk_iso iso43 | exact chk_call iso43 (fun _ _ _ => rfl) | exact chk_iso iso47 | exact chk_call iso47 (fun _ _ _ => rfl) | exact chk_iso iso48 | exact chk_call iso48 (fun _ _ _ => rfl) | (exfalso; revert hF; decide) | ((first | refine chk_load ?_ | refine chk_slice ?_ | refine chk_convert ?_ | refine chk_store ?_ | refine chk_call (by kernel_rfl) ?_); simp only [eq_self, ev_tmp, upd_apply, rowsOfV, List.mem_cons, List.not_mem_nil, or_false, forall_eq, forall_eq_or_imp, obj_put, obj_new, nx_new, nx_put, Nat.reduceEqDiff, if_true, if_false, reduceIte, implies_true, and_self, and_true, true_or, or_true, S38str own4.sl, S38str b24, str_eql, RF, T1, T2, T3, T9, T22, T30, T32, T37, T38])))
    | (apply D_grd
       · (simp only [yieldedA, RY, Nat.reduceEqDiff, reduceIte, S38str own4.sl, S38str b24, str_eql, RF, T1, T2, T3, T9, T22, T30, T32, T37, T38] <;> rfl)))
  repeat (first
    | refine R_seq ?_ | refine R_region ?_ | refine R_nil ?_ | refine Q_seq ?_ | refine Q_norm ?_ | refine Q_seqr ?_ | refine Q_seqx ?_ | refine Q_bl ?_ | refine Q_blr ?_ | refine Q_blx ?_ | refine Q_blo rfl ?_ | refine R_block ?_ | refine R_skip ?_ | refine R_exit ?_ | refine R_ret ?_ | refine I_true ?_ | refine I_false ?_ | refine N_exit ?_ | refine N_ret ?_
    | ((first | apply R_op | apply R_op0)
       · (first | (simp (maxDischargeDepth := 9) only [RA, Nat.reduceEqDiff, Nat.reduceLT, Nat.reduceLeDiff, Nat.reduceAdd, Nat.reduceSub, Nat.reduceMul, Nat.reduceDiv, Nat.reduceMod, Nat.reducePow, Nat.reduceBEq, Nat.reduceGT, reduceIte, T1, T2, T3, T9, T22, T30, T32, T37, T38] <;> rfl) | ((repeat (first | (simp (maxDischargeDepth := 9) only [RA, Nat.reduceEqDiff, Nat.reduceLT, Nat.reduceLeDiff, Nat.reduceAdd, Nat.reduceSub, Nat.reduceMul, Nat.reduceDiv, Nat.reduceMod, Nat.reducePow, Nat.reduceBEq, Nat.reduceGT, reduceIte, T1, T2, T3, T9, T22, T30, T32, T37, T38]; done) | simp (maxDischargeDepth := 9) only [RA, Nat.reduceEqDiff, Nat.reduceLT, Nat.reduceLeDiff, Nat.reduceAdd, Nat.reduceSub, Nat.reduceMul, Nat.reduceDiv, Nat.reduceMod, Nat.reducePow, Nat.reduceBEq, Nat.reduceGT, reduceIte, T1, T2, T3, T9, T22, T30, T32, T37, T38] | simp (disch := first | assumption | omega) only [RV, T1, T2, T3, T9, T22, T30, T32, T37, T38])) <;> rfl)))
    | (apply R_cond
       · (simp only [RE, Nat.reduceEqDiff, Nat.reduceLT, Nat.reduceLeDiff, Nat.reduceBEq, reduceIte, T1, T2, T3, T9, T22, T30, T32, T37, T38] <;> rfl))
    | (apply R_grd
       · (simp only [yieldedA, RY, Nat.reduceEqDiff, reduceIte, T1, T2, T3, T9, T22, T30, T32, T37, T38] <;> rfl)))
  (first | refine ⟨.inr rfl, _, rfl, ?_⟩ | refine ⟨.inl rfl, _, rfl, ?_⟩) <;> simp only [packR, upd_apply, Nat.reduceEqDiff, if_true, if_false, reduceIte]
set_option maxRecDepth 20000 in
set_option maxHeartbeats 8000000 in
theorem law6 (k n' : List (BitVec 8)) (hk : k.length = 32) (hn : n'.length = 12) (c : BitVec 32) (h : Heap) (v : Value) (b : List (BitVec 8)) (hb : By h v b) : ∃ v1 h1, evF (cfg0 Try.prog) 9 6 [.agg ⟨askL k n' c⟩, v] h = some (.ok v1, h1) ∧ v1 = .bool true := by
  rw [evF_eq Try.func6 rfl]
  apply evEnd_of_W
  simp only [Try.f6]
  repeat (first
    | refine R_seq ?_ | refine R_region ?_ | refine R_nil ?_ | refine Q_seq ?_ | refine Q_norm ?_ | refine Q_seqr ?_ | refine Q_seqx ?_ | refine Q_bl ?_ | refine Q_blr ?_ | refine Q_blx ?_ | refine Q_blo rfl ?_ | refine R_block ?_ | refine R_skip ?_ | refine R_exit ?_ | refine R_ret ?_ | refine I_true ?_ | refine I_false ?_ | refine N_exit ?_ | refine N_ret ?_
    | (refine R_draw (by kernel_rfl) ?_)
    | ((first | apply R_op | apply R_op0)
       · (first | (simp (maxDischargeDepth := 9) only [RA, Nat.reduceEqDiff, Nat.reduceLT, Nat.reduceLeDiff, Nat.reduceAdd, Nat.reduceSub, Nat.reduceMul, Nat.reduceDiv, Nat.reduceMod, Nat.reducePow, Nat.reduceBEq, Nat.reduceGT, reduceIte, ask_box, T1, T2, T3, T9, T22, T30, T32, T37, T38] <;> rfl) | ((repeat (first | (simp (maxDischargeDepth := 9) only [RA, Nat.reduceEqDiff, Nat.reduceLT, Nat.reduceLeDiff, Nat.reduceAdd, Nat.reduceSub, Nat.reduceMul, Nat.reduceDiv, Nat.reduceMod, Nat.reducePow, Nat.reduceBEq, Nat.reduceGT, reduceIte, ask_box, T1, T2, T3, T9, T22, T30, T32, T37, T38]; done) | simp (maxDischargeDepth := 9) only [RA, Nat.reduceEqDiff, Nat.reduceLT, Nat.reduceLeDiff, Nat.reduceAdd, Nat.reduceSub, Nat.reduceMul, Nat.reduceDiv, Nat.reduceMod, Nat.reducePow, Nat.reduceBEq, Nat.reduceGT, reduceIte, ask_box, T1, T2, T3, T9, T22, T30, T32, T37, T38] | simp (disch := first | assumption | omega) only [RV, ask_box, T1, T2, T3, T9, T22, T30, T32, T37, T38])) <;> rfl)))
    | (apply R_cond
       · (simp only [RE, Nat.reduceEqDiff, Nat.reduceLT, Nat.reduceLeDiff, Nat.reduceBEq, reduceIte, ask_box, T1, T2, T3, T9, T22, T30, T32, T37, T38] <;> rfl))
    | (apply R_grd
       · (simp only [yieldedA, RY, Nat.reduceEqDiff, reduceIte, ask_box, T1, T2, T3, T9, T22, T30, T32, T37, T38] <;> rfl)))
  have hb1 : By (newRowH h .rw 1 (askL k n' c)) v b := hb.fr0 (Fr.new (.refl _ _) (Nat.le_refl _) _ _ _)
  obtain ⟨v2, e2, b2, r2⟩ := few47 7 _ v b 500 hb1
  repeat (first
    | refine R_seq ?_ | refine R_region ?_ | refine R_nil ?_ | refine Q_seq ?_ | refine Q_norm ?_ | refine Q_seqr ?_ | refine Q_seqx ?_ | refine Q_bl ?_ | refine Q_blr ?_ | refine Q_blx ?_ | refine Q_blo rfl ?_ | refine R_block ?_ | refine R_skip ?_ | refine R_exit ?_ | refine R_ret ?_ | refine I_true ?_ | refine I_false ?_ | refine N_exit ?_ | refine N_ret ?_
    | (refine R_draw (by kernel_rfl) ?_)
    | ((first | apply R_op | apply R_op0)
       · (first | (simp (maxDischargeDepth := 9) only [RA, Nat.reduceEqDiff, Nat.reduceLT, Nat.reduceLeDiff, Nat.reduceAdd, Nat.reduceSub, Nat.reduceMul, Nat.reduceDiv, Nat.reduceMod, Nat.reducePow, Nat.reduceBEq, Nat.reduceGT, reduceIte, e2, T1, T2, T3, T9, T22, T30, T32, T37, T38] <;> rfl) | ((repeat (first | (simp (maxDischargeDepth := 9) only [RA, Nat.reduceEqDiff, Nat.reduceLT, Nat.reduceLeDiff, Nat.reduceAdd, Nat.reduceSub, Nat.reduceMul, Nat.reduceDiv, Nat.reduceMod, Nat.reducePow, Nat.reduceBEq, Nat.reduceGT, reduceIte, e2, T1, T2, T3, T9, T22, T30, T32, T37, T38]; done) | simp (maxDischargeDepth := 9) only [RA, Nat.reduceEqDiff, Nat.reduceLT, Nat.reduceLeDiff, Nat.reduceAdd, Nat.reduceSub, Nat.reduceMul, Nat.reduceDiv, Nat.reduceMod, Nat.reducePow, Nat.reduceBEq, Nat.reduceGT, reduceIte, e2, T1, T2, T3, T9, T22, T30, T32, T37, T38] | simp (disch := first | assumption | omega) only [RV, e2, T1, T2, T3, T9, T22, T30, T32, T37, T38])) <;> rfl)))
    | (apply R_cond
       · (simp only [RE, Nat.reduceEqDiff, Nat.reduceLT, Nat.reduceLeDiff, Nat.reduceBEq, reduceIte, e2, T1, T2, T3, T9, T22, T30, T32, T37, T38] <;> rfl))
    | (apply R_grd
       · (simp only [yieldedA, RY, Nat.reduceEqDiff, reduceIte, e2, T1, T2, T3, T9, T22, T30, T32, T37, T38] <;> rfl)))
  have hbl : (b.take 500).length ≤ 500 := by simp; omega
  generalize b.take 500 = b at b2 hbl
  refine R_app E38 Try.underlying38 (v := emptyS) (w := v2) (lo := h.nx + 1) (xs := []) (ys := b) ?_ ?_ .empty b2 (by simp only [RH]; omega) (by simp; omega) ?_
  · first | rfl | (first | rw [ev_tmp] | rw [ev_const] | skip) <;> simp only [upd_apply, Nat.reduceEqDiff, if_true, if_false, reduceIte, lit_iv, lit_w8]
  · first | rfl | (first | rw [ev_tmp] | rw [ev_const] | skip) <;> simp only [upd_apply, Nat.reduceEqDiff, if_true, if_false, reduceIte, lit_iv, lit_w8]
  intro v3 h3 own3 wt3
  rw [List.nil_append] at own3
  have F3 : Fr (h.nx + 1) (newRowH h .rw 1 (askL k n' c)) h3 := wt3.fr (by simp only [RH]; omega) (fun r hr => by simp [rowsOfV, emptyS] at hr)
  have b23 : By h3 v2 b := b2.fr0 F3
  have o3 : h3.obj h.nx = some (.row .rw 1 (askL k n' c)) := by
    rw [F3.2 _ (by omega)]; simp [obj_new]
  repeat (first
    | refine R_seq ?_ | refine R_region ?_ | refine R_nil ?_ | refine Q_seq ?_ | refine Q_norm ?_ | refine Q_seqr ?_ | refine Q_seqx ?_ | refine Q_bl ?_ | refine Q_blr ?_ | refine Q_blx ?_ | refine Q_blo rfl ?_ | refine R_block ?_ | refine R_skip ?_ | refine R_exit ?_ | refine R_ret ?_ | refine I_true ?_ | refine I_false ?_ | refine N_exit ?_ | refine N_ret ?_
    | ((first | apply R_op | apply R_op0)
       · (first | (simp (maxDischargeDepth := 9) only [RA, Nat.reduceEqDiff, Nat.reduceLT, Nat.reduceLeDiff, Nat.reduceAdd, Nat.reduceSub, Nat.reduceMul, Nat.reduceDiv, Nat.reduceMod, Nat.reducePow, Nat.reduceBEq, Nat.reduceGT, reduceIte, T1, T2, T3, T9, T22, T30, T32, T37, T38] <;> rfl) | ((repeat (first | (simp (maxDischargeDepth := 9) only [RA, Nat.reduceEqDiff, Nat.reduceLT, Nat.reduceLeDiff, Nat.reduceAdd, Nat.reduceSub, Nat.reduceMul, Nat.reduceDiv, Nat.reduceMod, Nat.reducePow, Nat.reduceBEq, Nat.reduceGT, reduceIte, T1, T2, T3, T9, T22, T30, T32, T37, T38]; done) | simp (maxDischargeDepth := 9) only [RA, Nat.reduceEqDiff, Nat.reduceLT, Nat.reduceLeDiff, Nat.reduceAdd, Nat.reduceSub, Nat.reduceMul, Nat.reduceDiv, Nat.reduceMod, Nat.reducePow, Nat.reduceBEq, Nat.reduceGT, reduceIte, T1, T2, T3, T9, T22, T30, T32, T37, T38] | simp (disch := first | assumption | omega) only [RV, T1, T2, T3, T9, T22, T30, T32, T37, T38])) <;> rfl)))
    | (apply R_cond
       · (simp only [RE, Nat.reduceEqDiff, Nat.reduceLT, Nat.reduceLeDiff, Nat.reduceBEq, reduceIte, T1, T2, T3, T9, T22, T30, T32, T37, T38] <;> rfl))
    | (apply R_grd
       · (simp only [yieldedA, RY, Nat.reduceEqDiff, reduceIte, T1, T2, T3, T9, T22, T30, T32, T37, T38] <;> rfl)))
  refine D_draw [0, 3, 5, 7, 9, 10, 12, 14, 16, 18, 19, 24, 26] (fun _ => True) (by kernel_rfl) ?_
  repeat (first
    | refine D_nil ?_ | refine I_true ?_ | refine I_false ?_
    | ((first | apply D_op | apply D_op0)
       · (first | (simp (maxDischargeDepth := 9) only [RA, Nat.reduceEqDiff, Nat.reduceLT, Nat.reduceLeDiff, Nat.reduceAdd, Nat.reduceSub, Nat.reduceMul, Nat.reduceDiv, Nat.reduceMod, Nat.reducePow, Nat.reduceBEq, Nat.reduceGT, reduceIte, live43n 3, o3, ask_cut0 hk, ask_cut1 hk hn, ask_cell hk hn, T1, T2, T3, T9, T22, T30, T32, T37, T38] <;> rfl) | ((repeat (first | (simp (maxDischargeDepth := 9) only [RA, Nat.reduceEqDiff, Nat.reduceLT, Nat.reduceLeDiff, Nat.reduceAdd, Nat.reduceSub, Nat.reduceMul, Nat.reduceDiv, Nat.reduceMod, Nat.reducePow, Nat.reduceBEq, Nat.reduceGT, reduceIte, live43n 3, o3, ask_cut0 hk, ask_cut1 hk hn, ask_cell hk hn, T1, T2, T3, T9, T22, T30, T32, T37, T38]; done) | simp (maxDischargeDepth := 9) only [RA, Nat.reduceEqDiff, Nat.reduceLT, Nat.reduceLeDiff, Nat.reduceAdd, Nat.reduceSub, Nat.reduceMul, Nat.reduceDiv, Nat.reduceMod, Nat.reducePow, Nat.reduceBEq, Nat.reduceGT, reduceIte, live43n 3, o3, ask_cut0 hk, ask_cut1 hk hn, ask_cell hk hn, T1, T2, T3, T9, T22, T30, T32, T37, T38] | simp (disch := first | assumption | omega) only [RV, live43n 3, o3, ask_cut0 hk, ask_cut1 hk hn, ask_cell hk hn, T1, T2, T3, T9, T22, T30, T32, T37, T38])) <;> rfl))
       · (intro hF; first | exact chk_pure rfl | exact chk_alloc rfl | exact chk_read rfl | exact chk_iso iso43 | exact chk_call iso43 (fun _ _ _ => rfl) | exact chk_iso iso47 | exact chk_call iso47 (fun _ _ _ => rfl) | exact chk_iso iso48 | exact chk_call iso48 (fun _ _ _ => rfl) | exact chk_iso iso49 | exact chk_call iso49 (fun _ _ _ => rfl) | (exfalso; revert hF; decide) | ((first | refine chk_load ?_ | refine chk_slice ?_ | refine chk_convert ?_ | refine chk_store ?_ | refine chk_call (by kernel_rfl) ?_); simp only [eq_self, ev_tmp, upd_apply, rowsOfV, List.mem_cons, List.not_mem_nil, or_false, forall_eq, forall_eq_or_imp, obj_put, obj_new, nx_new, nx_put, Nat.reduceEqDiff, if_true, if_false, reduceIte, implies_true, and_self, and_true, true_or, or_true, live43n 3, o3, ask_cut0 hk, ask_cut1 hk hn, ask_cell hk hn, T1, T2, T3, T9, T22, T30, T32, T37, T38])))
    | (apply D_grd
       · (simp only [yieldedA, RY, Nat.reduceEqDiff, reduceIte, live43n 3, o3, ask_cut0 hk, ask_cut1 hk hn, ask_cell hk hn, T1, T2, T3, T9, T22, T30, T32, T37, T38] <;> rfl)))
  refine D_fn ?_ (xor48 1 _ k n' hk hn c v3 _ own3.sl (by omega)) iso48 (fun v4 h4 hp _ r _ hr => hp.2.2 r hr) ?_
  · rfl
  intro v4 h4 ⟨own4, F4⟩
  have b24 := b23.fr0 F4
  have o4 : h4.obj h.nx = some (.row .rw 1 (askL k n' c)) := by
    rw [F4.2 _ (by have := F3.1; simp only [RH] at this; omega)]; exact o3
  repeat (first
    | refine D_nil ?_ | refine I_true ?_ | refine I_false ?_
    | ((first | apply D_op | apply D_op0)
       · (first | (simp (maxDischargeDepth := 9) only [RA, Nat.reduceEqDiff, Nat.reduceLT, Nat.reduceLeDiff, Nat.reduceAdd, Nat.reduceSub, Nat.reduceMul, Nat.reduceDiv, Nat.reduceMod, Nat.reducePow, Nat.reduceBEq, Nat.reduceGT, reduceIte, S38str own4.sl, RF, o4, ask_cut0 hk, ask_cut1 hk hn, ask_cell hk hn, T1, T2, T3, T9, T22, T30, T32, T37, T38] <;> rfl) | ((repeat (first | (simp (maxDischargeDepth := 9) only [RA, Nat.reduceEqDiff, Nat.reduceLT, Nat.reduceLeDiff, Nat.reduceAdd, Nat.reduceSub, Nat.reduceMul, Nat.reduceDiv, Nat.reduceMod, Nat.reducePow, Nat.reduceBEq, Nat.reduceGT, reduceIte, S38str own4.sl, RF, o4, ask_cut0 hk, ask_cut1 hk hn, ask_cell hk hn, T1, T2, T3, T9, T22, T30, T32, T37, T38]; done) | simp (maxDischargeDepth := 9) only [RA, Nat.reduceEqDiff, Nat.reduceLT, Nat.reduceLeDiff, Nat.reduceAdd, Nat.reduceSub, Nat.reduceMul, Nat.reduceDiv, Nat.reduceMod, Nat.reducePow, Nat.reduceBEq, Nat.reduceGT, reduceIte, S38str own4.sl, RF, o4, ask_cut0 hk, ask_cut1 hk hn, ask_cell hk hn, T1, T2, T3, T9, T22, T30, T32, T37, T38] | simp (disch := first | assumption | omega) only [RV, S38str own4.sl, RF, o4, ask_cut0 hk, ask_cut1 hk hn, ask_cell hk hn, T1, T2, T3, T9, T22, T30, T32, T37, T38])) <;> rfl))
       · (intro hF; first | exact chk_pure rfl | exact chk_alloc rfl | exact chk_read rfl | exact chk_iso iso43 | exact chk_call iso43 (fun _ _ _ => rfl) | exact chk_iso iso47 | exact chk_call iso47 (fun _ _ _ => rfl) | exact chk_iso iso48 | exact chk_call iso48 (fun _ _ _ => rfl) | exact chk_iso iso49 | exact chk_call iso49 (fun _ _ _ => rfl) | (exfalso; revert hF; decide) | ((first | refine chk_load ?_ | refine chk_slice ?_ | refine chk_convert ?_ | refine chk_store ?_ | refine chk_call (by kernel_rfl) ?_); simp only [eq_self, ev_tmp, upd_apply, rowsOfV, List.mem_cons, List.not_mem_nil, or_false, forall_eq, forall_eq_or_imp, obj_put, obj_new, nx_new, nx_put, Nat.reduceEqDiff, if_true, if_false, reduceIte, implies_true, and_self, and_true, true_or, or_true, S38str own4.sl, RF, o4, ask_cut0 hk, ask_cut1 hk hn, ask_cell hk hn, T1, T2, T3, T9, T22, T30, T32, T37, T38])))
    | (apply D_grd
       · (simp only [yieldedA, RY, Nat.reduceEqDiff, reduceIte, S38str own4.sl, RF, o4, ask_cut0 hk, ask_cut1 hk hn, ask_cell hk hn, T1, T2, T3, T9, T22, T30, T32, T37, T38] <;> rfl)))
  refine D_fn ?_ (xor49 2 _ k n' hk hn c v2 _ b24 (by omega)) iso49 (fun v4 h4 hp _ r _ hr => hp.2.2 r hr) ?_
  · rfl
  intro v5 h5 ⟨own5, F5⟩
  have b25 := b24.fr0 F5
  have b35 := (own3.sl.fr0 F4).fr0 F5
  repeat (first
    | refine D_nil ?_ | refine I_true ?_ | refine I_false ?_
    | ((first | apply D_op | apply D_op0)
       · (first | (simp (maxDischargeDepth := 9) only [RA, Nat.reduceEqDiff, Nat.reduceLT, Nat.reduceLeDiff, Nat.reduceAdd, Nat.reduceSub, Nat.reduceMul, Nat.reduceDiv, Nat.reduceMod, Nat.reducePow, Nat.reduceBEq, Nat.reduceGT, reduceIte, S38str own5.sl, RF, str_eql, S38str b25, S38str b35, T1, T2, T3, T9, T22, T30, T32, T37, T38] <;> rfl) | ((repeat (first | (simp (maxDischargeDepth := 9) only [RA, Nat.reduceEqDiff, Nat.reduceLT, Nat.reduceLeDiff, Nat.reduceAdd, Nat.reduceSub, Nat.reduceMul, Nat.reduceDiv, Nat.reduceMod, Nat.reducePow, Nat.reduceBEq, Nat.reduceGT, reduceIte, S38str own5.sl, RF, str_eql, S38str b25, S38str b35, T1, T2, T3, T9, T22, T30, T32, T37, T38]; done) | simp (maxDischargeDepth := 9) only [RA, Nat.reduceEqDiff, Nat.reduceLT, Nat.reduceLeDiff, Nat.reduceAdd, Nat.reduceSub, Nat.reduceMul, Nat.reduceDiv, Nat.reduceMod, Nat.reducePow, Nat.reduceBEq, Nat.reduceGT, reduceIte, S38str own5.sl, RF, str_eql, S38str b25, S38str b35, T1, T2, T3, T9, T22, T30, T32, T37, T38] | simp (disch := first | assumption | omega) only [RV, S38str own5.sl, RF, str_eql, S38str b25, S38str b35, T1, T2, T3, T9, T22, T30, T32, T37, T38])) <;> rfl))
       · (intro hF; first | exact chk_pure rfl | exact chk_alloc rfl | exact chk_read rfl | exact chk_iso iso43 | exact chk_call iso43 (fun _ _ _ => rfl) | exact chk_iso iso47 | exact chk_call iso47 (fun _ _ _ => rfl) | exact chk_iso iso48 | exact chk_call iso48 (fun _ _ _ => rfl) | exact chk_iso iso49 | exact chk_call iso49 (fun _ _ _ => rfl) | (exfalso; revert hF; decide) | ((first | refine chk_load ?_ | refine chk_slice ?_ | refine chk_convert ?_ | refine chk_store ?_ | refine chk_call (by kernel_rfl) ?_); simp only [eq_self, ev_tmp, upd_apply, rowsOfV, List.mem_cons, List.not_mem_nil, or_false, forall_eq, forall_eq_or_imp, obj_put, obj_new, nx_new, nx_put, Nat.reduceEqDiff, if_true, if_false, reduceIte, implies_true, and_self, and_true, true_or, or_true, S38str own5.sl, RF, str_eql, S38str b25, S38str b35, T1, T2, T3, T9, T22, T30, T32, T37, T38])))
    | (apply D_grd
       · (simp only [yieldedA, RY, Nat.reduceEqDiff, reduceIte, S38str own5.sl, RF, str_eql, S38str b25, S38str b35, T1, T2, T3, T9, T22, T30, T32, T37, T38] <;> rfl)))
  repeat (first
    | refine R_seq ?_ | refine R_region ?_ | refine R_nil ?_ | refine Q_seq ?_ | refine Q_norm ?_ | refine Q_seqr ?_ | refine Q_seqx ?_ | refine Q_bl ?_ | refine Q_blr ?_ | refine Q_blx ?_ | refine Q_blo rfl ?_ | refine R_block ?_ | refine R_skip ?_ | refine R_exit ?_ | refine R_ret ?_ | refine I_true ?_ | refine I_false ?_ | refine N_exit ?_ | refine N_ret ?_
    | ((first | apply R_op | apply R_op0)
       · (first | (simp (maxDischargeDepth := 9) only [RA, Nat.reduceEqDiff, Nat.reduceLT, Nat.reduceLeDiff, Nat.reduceAdd, Nat.reduceSub, Nat.reduceMul, Nat.reduceDiv, Nat.reduceMod, Nat.reducePow, Nat.reduceBEq, Nat.reduceGT, reduceIte, T1, T2, T3, T9, T22, T30, T32, T37, T38] <;> rfl) | ((repeat (first | (simp (maxDischargeDepth := 9) only [RA, Nat.reduceEqDiff, Nat.reduceLT, Nat.reduceLeDiff, Nat.reduceAdd, Nat.reduceSub, Nat.reduceMul, Nat.reduceDiv, Nat.reduceMod, Nat.reducePow, Nat.reduceBEq, Nat.reduceGT, reduceIte, T1, T2, T3, T9, T22, T30, T32, T37, T38]; done) | simp (maxDischargeDepth := 9) only [RA, Nat.reduceEqDiff, Nat.reduceLT, Nat.reduceLeDiff, Nat.reduceAdd, Nat.reduceSub, Nat.reduceMul, Nat.reduceDiv, Nat.reduceMod, Nat.reducePow, Nat.reduceBEq, Nat.reduceGT, reduceIte, T1, T2, T3, T9, T22, T30, T32, T37, T38] | simp (disch := first | assumption | omega) only [RV, T1, T2, T3, T9, T22, T30, T32, T37, T38])) <;> rfl)))
    | (apply R_cond
       · (simp only [RE, Nat.reduceEqDiff, Nat.reduceLT, Nat.reduceLeDiff, Nat.reduceBEq, reduceIte, T1, T2, T3, T9, T22, T30, T32, T37, T38] <;> rfl))
    | (apply R_grd
       · (simp only [yieldedA, RY, Nat.reduceEqDiff, reduceIte, T1, T2, T3, T9, T22, T30, T32, T37, T38] <;> rfl)))
  (first | refine ⟨.inr rfl, _, rfl, ?_⟩ | refine ⟨.inl rfl, _, rfl, ?_⟩) <;> simp only [packR, upd_apply, Nat.reduceEqDiff, if_true, if_false, reduceIte]
set_option maxRecDepth 20000 in
set_option maxHeartbeats 8000000 in
theorem law9 (k n' : List (BitVec 8)) (hk : k.length = 32) (hn : n'.length = 12) (c : BitVec 32) (h : Heap) : ∃ v1 h1, evF (cfg0 Try.prog) 9 9 [.agg ⟨askL k n' c⟩] h = some (.ok v1, h1) ∧ v1 = .bool true := by
  rw [evF_eq Try.func9 rfl]
  apply evEnd_of_W
  simp only [Try.f9]
  repeat (first
    | refine R_seq ?_ | refine R_region ?_ | refine R_nil ?_ | refine Q_seq ?_ | refine Q_norm ?_ | refine Q_seqr ?_ | refine Q_seqx ?_ | refine Q_bl ?_ | refine Q_blr ?_ | refine Q_blx ?_ | refine Q_blo rfl ?_ | refine R_block ?_ | refine R_skip ?_ | refine R_exit ?_ | refine R_ret ?_ | refine I_true ?_ | refine I_false ?_ | refine N_exit ?_ | refine N_ret ?_
    | (refine R_draw (by kernel_rfl) ?_)
    | ((first | apply R_op | apply R_op0)
       · (first | (simp (maxDischargeDepth := 9) only [RA, Nat.reduceEqDiff, Nat.reduceLT, Nat.reduceLeDiff, Nat.reduceAdd, Nat.reduceSub, Nat.reduceMul, Nat.reduceDiv, Nat.reduceMod, Nat.reducePow, Nat.reduceBEq, Nat.reduceGT, reduceIte, ask_box, ask_cut0 hk, ask_cut1 hk hn, ask_cell hk hn, T1, T2, T3, T9, T22, T30, T32, T33, T37, T38] <;> rfl) | ((repeat (first | (simp (maxDischargeDepth := 9) only [RA, Nat.reduceEqDiff, Nat.reduceLT, Nat.reduceLeDiff, Nat.reduceAdd, Nat.reduceSub, Nat.reduceMul, Nat.reduceDiv, Nat.reduceMod, Nat.reducePow, Nat.reduceBEq, Nat.reduceGT, reduceIte, ask_box, ask_cut0 hk, ask_cut1 hk hn, ask_cell hk hn, T1, T2, T3, T9, T22, T30, T32, T33, T37, T38]; done) | simp (maxDischargeDepth := 9) only [RA, Nat.reduceEqDiff, Nat.reduceLT, Nat.reduceLeDiff, Nat.reduceAdd, Nat.reduceSub, Nat.reduceMul, Nat.reduceDiv, Nat.reduceMod, Nat.reducePow, Nat.reduceBEq, Nat.reduceGT, reduceIte, ask_box, ask_cut0 hk, ask_cut1 hk hn, ask_cell hk hn, T1, T2, T3, T9, T22, T30, T32, T33, T37, T38] | simp (disch := first | assumption | omega) only [RV, ask_box, ask_cut0 hk, ask_cut1 hk hn, ask_cell hk hn, T1, T2, T3, T9, T22, T30, T32, T33, T37, T38])) <;> rfl)))
    | (apply R_cond
       · (simp only [RE, Nat.reduceEqDiff, Nat.reduceLT, Nat.reduceLeDiff, Nat.reduceBEq, reduceIte, ask_box, ask_cut0 hk, ask_cut1 hk hn, ask_cell hk hn, T1, T2, T3, T9, T22, T30, T32, T33, T37, T38] <;> rfl))
    | (apply R_grd
       · (simp only [yieldedA, RY, Nat.reduceEqDiff, reduceIte, ask_box, ask_cut0 hk, ask_cut1 hk hn, ask_cell hk hn, T1, T2, T3, T9, T22, T30, T32, T33, T37, T38] <;> rfl)))
  refine R_mk E38 (n := 100) (m := 100) ?_ ?_ (Nat.le_refl _) (by omega) rfl ?_
  · first | rfl | (first | rw [ev_tmp] | rw [ev_const] | skip) <;> simp only [upd_apply, Nat.reduceEqDiff, if_true, if_false, reduceIte, lit_iv, lit_w8]
  · first | rfl | (first | rw [ev_tmp] | rw [ev_const] | skip) <;> simp only [upd_apply, Nat.reduceEqDiff, if_true, if_false, reduceIte, lit_iv, lit_w8]
  intro v0 h0 own0 f0 n0
  simp only [RH] at own0 f0 n0
  refine R_fn ?_ (xor48 1 _ k n' hk hn c v0 _ own0.sl (by simp)) ?_
  · rfl
  intro v3 h3 ⟨own3, F3⟩
  have F03 := f0.trans (F3.le (by have := f0.1; simpa only [RH] using this))
  have N3 := F03.1
  simp only [RH] at N3
  have o3 : h3.obj h.nx = some (.row .rw 1 (askL k n' c)) := by
    rw [F03.2 _ (by omega)]; simp [obj_new]
  have a1 : (h.nx = h3.nx) = False := eq_false (by omega)
  have a2 : (h.nx = h3.nx + 1) = False := eq_false (by omega)
  have l1 := block_length k n' c
  have l2 := block_length k n' (c + 1#32)
  repeat (first
    | refine R_seq ?_ | refine R_region ?_ | refine R_nil ?_ | refine Q_seq ?_ | refine Q_norm ?_ | refine Q_seqr ?_ | refine Q_seqx ?_ | refine Q_bl ?_ | refine Q_blr ?_ | refine Q_blx ?_ | refine Q_blo rfl ?_ | refine R_block ?_ | refine R_skip ?_ | refine R_exit ?_ | refine R_ret ?_ | refine I_true ?_ | refine I_false ?_ | refine N_exit ?_ | refine N_ret ?_
    | ((first | apply R_op | apply R_op0)
       · (first | (simp (maxDischargeDepth := 9) only [RA, Nat.reduceEqDiff, Nat.reduceLT, Nat.reduceLeDiff, Nat.reduceAdd, Nat.reduceSub, Nat.reduceMul, Nat.reduceDiv, Nat.reduceMod, Nat.reducePow, Nat.reduceBEq, Nat.reduceGT, reduceIte, o3, ask_cut0 hk, ask_cut1 hk hn, ask_cell hk hn, block45 2 k n' hk hn, puts8 l1 List.length_replicate, puts8 l2 List.length_replicate, a1, a2, T1, T2, T3, T9, T22, T30, T32, T33, T37, T38] <;> rfl) | ((repeat (first | (simp (maxDischargeDepth := 9) only [RA, Nat.reduceEqDiff, Nat.reduceLT, Nat.reduceLeDiff, Nat.reduceAdd, Nat.reduceSub, Nat.reduceMul, Nat.reduceDiv, Nat.reduceMod, Nat.reducePow, Nat.reduceBEq, Nat.reduceGT, reduceIte, o3, ask_cut0 hk, ask_cut1 hk hn, ask_cell hk hn, block45 2 k n' hk hn, puts8 l1 List.length_replicate, puts8 l2 List.length_replicate, a1, a2, T1, T2, T3, T9, T22, T30, T32, T33, T37, T38]; done) | simp (maxDischargeDepth := 9) only [RA, Nat.reduceEqDiff, Nat.reduceLT, Nat.reduceLeDiff, Nat.reduceAdd, Nat.reduceSub, Nat.reduceMul, Nat.reduceDiv, Nat.reduceMod, Nat.reducePow, Nat.reduceBEq, Nat.reduceGT, reduceIte, o3, ask_cut0 hk, ask_cut1 hk hn, ask_cell hk hn, block45 2 k n' hk hn, puts8 l1 List.length_replicate, puts8 l2 List.length_replicate, a1, a2, T1, T2, T3, T9, T22, T30, T32, T33, T37, T38] | simp (disch := first | assumption | omega) only [RV, o3, ask_cut0 hk, ask_cut1 hk hn, ask_cell hk hn, block45 2 k n' hk hn, puts8 l1 List.length_replicate, puts8 l2 List.length_replicate, a1, a2, T1, T2, T3, T9, T22, T30, T32, T33, T37, T38])) <;> rfl)))
    | (apply R_cond
       · (simp only [RE, Nat.reduceEqDiff, Nat.reduceLT, Nat.reduceLeDiff, Nat.reduceBEq, reduceIte, o3, ask_cut0 hk, ask_cut1 hk hn, ask_cell hk hn, block45 2 k n' hk hn, puts8 l1 List.length_replicate, puts8 l2 List.length_replicate, a1, a2, T1, T2, T3, T9, T22, T30, T32, T33, T37, T38] <;> rfl))
    | (apply R_grd
       · (simp only [yieldedA, RY, Nat.reduceEqDiff, reduceIte, o3, ask_cut0 hk, ask_cut1 hk hn, ask_cell hk hn, block45 2 k n' hk hn, puts8 l1 List.length_replicate, puts8 l2 List.length_replicate, a1, a2, T1, T2, T3, T9, T22, T30, T32, T33, T37, T38] <;> rfl)))
  refine W_heap fun H hH => ?_
  have b1 : By H (.slice (some ⟨h3.nx, 0, none⟩) 64 64) (block k n' c) := by_row (k := .rw) (by rw [hH]; simp only [RH]; omega) (by rw [hH]; simp [RH]) (Nat.le_refl _) l1
  have b2 : By H (.slice (some ⟨h3.nx + 1, 0, none⟩) 36 64) ((block k n' (c + 1#32)).take 36) := by_sub (k := .rw) (ys := block k n' (c + 1#32)) (by rw [hH]; simp only [RH]; omega) (by rw [hH]; simp [RH]) (by omega) (by omega) (by rw [List.drop_zero])
  have F3H : Fr h3.nx h3 H := by
    rw [hH]
    (repeat (first | assumption | exact Fr.refl _ _ | refine Fr.new ?_ ?_ _ _ _ | refine Fr.put ?_ ?_ _ | omega | (simp only [RH]; omega)))
  have b3 : By H v3 (xorS k n' c (List.replicate 100 0#8)) := own3.sl.fr0 F3H
  have hl3 : (xorS k n' c (List.replicate 100 0#8)).length = 100 := by rw [xorS_length]; simp
  have b4 := b3.subh (mx := none) (hh := 64) (by omega) (fun m hm => nomatch hm)
  have b5 := b3.subl (l := 64) (by omega)
  rw [xorS_zeros1] at b4
  rw [xorS_zeros2] at b5
  have sc := S38l (l := 64) b3 fr_refl (by omega)
  have sd := S38h (hh := 64) b3 fr_refl (by omega)
  clear hH
  rw [hl3] at sc b5
  repeat (first
    | refine R_seq ?_ | refine R_region ?_ | refine R_nil ?_ | refine Q_seq ?_ | refine Q_norm ?_ | refine Q_seqr ?_ | refine Q_seqx ?_ | refine Q_bl ?_ | refine Q_blr ?_ | refine Q_blx ?_ | refine Q_blo rfl ?_ | refine R_block ?_ | refine R_skip ?_ | refine R_exit ?_ | refine R_ret ?_ | refine I_true ?_ | refine I_false ?_ | refine N_exit ?_ | refine N_ret ?_
    | (refine R_draw (by kernel_rfl) ?_)
    | ((first | apply R_op | apply R_op0)
       · (first | (simp (maxDischargeDepth := 9) only [RA, Nat.reduceEqDiff, Nat.reduceLT, Nat.reduceLeDiff, Nat.reduceAdd, Nat.reduceSub, Nat.reduceMul, Nat.reduceDiv, Nat.reduceMod, Nat.reducePow, Nat.reduceBEq, Nat.reduceGT, reduceIte, live43n 3, S38len b3, hl3, sc, sd, S38str b1, S38str b2, S38str b4, S38str b5, str_eql, RF, T1, T2, T3, T9, T22, T30, T32, T33, T37, T38] <;> rfl) | ((repeat (first | (simp (maxDischargeDepth := 9) only [RA, Nat.reduceEqDiff, Nat.reduceLT, Nat.reduceLeDiff, Nat.reduceAdd, Nat.reduceSub, Nat.reduceMul, Nat.reduceDiv, Nat.reduceMod, Nat.reducePow, Nat.reduceBEq, Nat.reduceGT, reduceIte, live43n 3, S38len b3, hl3, sc, sd, S38str b1, S38str b2, S38str b4, S38str b5, str_eql, RF, T1, T2, T3, T9, T22, T30, T32, T33, T37, T38]; done) | simp (maxDischargeDepth := 9) only [RA, Nat.reduceEqDiff, Nat.reduceLT, Nat.reduceLeDiff, Nat.reduceAdd, Nat.reduceSub, Nat.reduceMul, Nat.reduceDiv, Nat.reduceMod, Nat.reducePow, Nat.reduceBEq, Nat.reduceGT, reduceIte, live43n 3, S38len b3, hl3, sc, sd, S38str b1, S38str b2, S38str b4, S38str b5, str_eql, RF, T1, T2, T3, T9, T22, T30, T32, T33, T37, T38] | simp (disch := first | assumption | omega) only [RV, live43n 3, S38len b3, hl3, sc, sd, S38str b1, S38str b2, S38str b4, S38str b5, str_eql, RF, T1, T2, T3, T9, T22, T30, T32, T33, T37, T38])) <;> rfl)))
    | (apply R_cond
       · (simp only [RE, Nat.reduceEqDiff, Nat.reduceLT, Nat.reduceLeDiff, Nat.reduceBEq, reduceIte, live43n 3, S38len b3, hl3, sc, sd, S38str b1, S38str b2, S38str b4, S38str b5, str_eql, RF, T1, T2, T3, T9, T22, T30, T32, T33, T37, T38] <;> rfl))
    | (apply R_grd
       · (simp only [yieldedA, RY, Nat.reduceEqDiff, reduceIte, live43n 3, S38len b3, hl3, sc, sd, S38str b1, S38str b2, S38str b4, S38str b5, str_eql, RF, T1, T2, T3, T9, T22, T30, T32, T33, T37, T38] <;> rfl)))
  (first | refine ⟨.inr rfl, _, rfl, ?_⟩ | refine ⟨.inl rfl, _, rfl, ?_⟩) <;> simp only [packR, upd_apply, Nat.reduceEqDiff, if_true, if_false, reduceIte]
theorem tyv38 {h : Heap} {v : Value} (s : TyV Try.prog 8 h 38 v) : ∃ xs, By h v xs ∧ xs.length ≤ maxLen := by
  obtain ⟨v', xs, e, hb, hl⟩ := ty_bytes (d := 6) Try.underlying38 Try.underlying5 cells5 (tyv_one Try.underlying38 rfl s)
  cases e
  exact ⟨xs, hb, hl⟩
theorem tyv37 {h : Heap} {v : Value} (s : TyV Try.prog 8 h 37 v) : ∃ k n c, k.length = 32 ∧ n.length = 12 ∧ v = .agg ⟨askL k n c⟩ := by
  obtain ⟨cs, rfl, s'⟩ := tyv_agg Try.underlying37 rfl s
  obtain ⟨k, n, c, hk, hn, rfl⟩ := ty37 (d := 5) s'
  exact ⟨k, n, c, hk, hn, rfl⟩
theorem tyv30 {h : Heap} {v : Value} (s : TyV Try.prog 8 h 30 v) : ∃ k, k.length = 32 ∧ v = .agg ⟨b8 k⟩ := by
  obtain ⟨cs, rfl, s'⟩ := tyv_agg Try.underlying30 rfl s
  obtain ⟨k, hk, rfl⟩ := ty30 (d := 6) s'
  exact ⟨k, hk, rfl⟩
theorem tyv32 {h : Heap} {v : Value} (s : TyV Try.prog 8 h 32 v) : ∃ k, k.length = 12 ∧ v = .agg ⟨b8 k⟩ := by
  obtain ⟨cs, rfl, s'⟩ := tyv_agg Try.underlying32 rfl s
  obtain ⟨k, hk, rfl⟩ := ty32 (d := 6) s'
  exact ⟨k, hk, rfl⟩
theorem wl6 (h : Heap) (avs : List Value) (ty : TyVs Try.prog 8 h [37, 38] avs) : ∃ v h', evF (cfg0 Try.prog) 9 6 avs h = some (.ok v, h') ∧ v = .bool true := by
  match avs, ty with
  | [v, w], ⟨s0, s1, _⟩ =>
    obtain ⟨k, n, c, hk, hn, rfl⟩ := tyv37 s0
    obtain ⟨xs, hb, _⟩ := tyv38 s1
    exact law6 k n hk hn c h w xs hb
theorem wl7 (h : Heap) (avs : List Value) (ty : TyVs Try.prog 8 h [37, 38] avs) : ∃ v h', evF (cfg0 Try.prog) 9 7 avs h = some (.ok v, h') ∧ v = .bool true := by
  match avs, ty with
  | [v, w], ⟨s0, s1, _⟩ =>
    obtain ⟨k, n, c, hk, hn, rfl⟩ := tyv37 s0
    obtain ⟨xs, hb, _⟩ := tyv38 s1
    exact law7 k n hk hn c h w xs hb
theorem wl9 (h : Heap) (avs : List Value) (ty : TyVs Try.prog 8 h [37] avs) : ∃ v h', evF (cfg0 Try.prog) 9 9 avs h = some (.ok v, h') ∧ v = .bool true := by
  match avs, ty with
  | [v], ⟨s0, _⟩ =>
    obtain ⟨k, n, c, hk, hn, rfl⟩ := tyv37 s0
    exact law9 k n hk hn c h
end Go.Proofs.Ytfehhihllenjiaa
