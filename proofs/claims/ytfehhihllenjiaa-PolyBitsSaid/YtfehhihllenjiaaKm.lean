/- One-time tags: bits that are clamped away. -/
import Derived.Test.YtfehhihllenjiaaKk
set_option linter.all false
namespace Go.Proofs.Ytfehhihllenjiaa
open Go.Proofs
def ffL : List (BitVec 8) := List.replicate 16 255#8 ++ List.replicate 16 0#8
theorem bu30f : evBuild Try.prog 30 [(0, w8 255#8), (1, w8 255#8), (2, w8 255#8), (3, w8 255#8), (4, w8 255#8), (5, w8 255#8), (6, w8 255#8), (7, w8 255#8), (8, w8 255#8), (9, w8 255#8), (10, w8 255#8), (11, w8 255#8), (12, w8 255#8), (13, w8 255#8), (14, w8 255#8), (15, w8 255#8)] = some (.agg ⟨b8 ffL⟩) := by kernel_rfl
def othL (k y : List (BitVec 8)) (i : Nat) : List (BitVec 8) := ((List.range i).map fun j => (clampB k).getD j 0#8 ||| (y.getD j 0#8 &&& ~~~((clampB ffL).getD j 0#8))) ++ k.drop i
theorem othL_length {k y : List (BitVec 8)} {i : Nat} (hk : k.length = 32) (hi : i ≤ 32) : (othL k y i).length = 32 := by simp [othL]; omega
theorem othL_zero (k y : List (BitVec 8)) : othL k y 0 = k := by simp [othL]
theorem othL_set {k y : List (BitVec 8)} {i : Nat} (hk : k.length = 32) (hi : i < 32) : (othL k y i).set i ((clampB k).getD i 0#8 ||| (y.getD i 0#8 &&& ~~~((clampB ffL).getD i 0#8))) = othL k y (i + 1) := by
  unfold othL
  rw [List.set_append_right _ _ (by simp), List.length_map, List.length_range, Nat.sub_self, List.drop_eq_getElem_cons (by omega : i < k.length), List.set_cons_zero, List.range_succ, List.map_append, List.append_assoc]
  rfl
theorem othL_clamp {k y : List (BitVec 8)} : clampB k = clampB (othL k y 16) := by
  apply clampB_ext
  intro i hi
  have e : (othL k y 16).getD i 0#8 = (clampB k).getD i 0#8 ||| (y.getD i 0#8 &&& ~~~((clampB ffL).getD i 0#8)) := by
    unfold othL
    rw [List.getD_eq_getElem?_getD, List.getElem?_append_left (by simpa using hi), List.getElem?_map, List.getElem?_range hi]
    rfl
  have hf : ffL.getD i 0#8 = 255#8 := by
    unfold ffL
    rw [List.getD_eq_getElem?_getD, List.getElem?_append_left (by simpa using hi), List.getElem?_replicate, if_pos hi]
    rfl
  rw [e, clampB_get k hi, clampB_get ffL hi, hf, clampAt_bits]
theorem othL_poly {k y : List (BitVec 8)} (b : List (BitVec 8)) : polyT (othL k y 16) b = polyT k b := by
  refine (polyT_congr b othL_clamp ?_).symm
  unfold othL
  exact (List.drop_left' (by simp)).symm
set_option maxRecDepth 20000 in
theorem cells56 : Try.prog.cellsOf 56 = 16 := by kernel_rfl
set_option maxRecDepth 20000 in
theorem ty56 {h : Heap} {d : Nat} {cs : List Value} (s : TyL Try.prog (d + 2) h 56 cs) : ∃ k : List (BitVec 8), k.length = 16 ∧ cs = b8 k := ty_arr8 Try.underlying56 Try.underlying5 cells5 cells56 s
attribute [local irreducible] evOps iter evD evF evC evLoad evStore evAlloc evIndexAddr evIndex evLenB evBox evBin evUn evConvert evExtract evSlice evAppend evCopy evNil evBuild evMakeSlice evBuildSlice evBuiltin Program.underlying
attribute [local irreducible] polyT pkL pbL ptL clampB cpy ffL othL
theorem tyv56 {h : Heap} {v : Value} (s : TyV Try.prog 8 h 56 v) : ∃ k, k.length = 16 ∧ v = .agg ⟨b8 k⟩ := by
  obtain ⟨cs, rfl, s'⟩ := tyv_agg Try.underlying56 rfl s
  obtain ⟨k, hk, rfl⟩ := ty56 (d := 6) s'
  exact ⟨k, hk, rfl⟩
theorem ffL_length : ffL.length = 32 := by unfold ffL; simp
set_option maxRecDepth 20000 in
set_option maxHeartbeats 8000000 in
theorem law21 (h : Heap) (k : List (BitVec 8)) (hk : k.length = 32) (w : Value) (b : List (BitVec 8)) (hb : By h w b) (y : List (BitVec 8)) (hy : y.length = 16) : ∃ v1 h1, evF (cfg0 Try.prog) 13 21 [.agg ⟨b8 k⟩, w, .agg ⟨b8 y⟩] h = some (.ok v1, h1) ∧ v1 = .bool true := by
  rw [evF_eq Try.func21 rfl]
  apply evEnd_of_W
  simp only [Try.f21]
  have hck := fun (kd : Kind) (es : Nat) => cut8 (k := kd) (es := es) hk
  obtain ⟨v2, e2, b2, r2⟩ := few61 11 (newRowH (newRowH h .rw 1 (b8 k)) .rw 1 (b8 y)) w b 300 (hb.fr0 (by (repeat (first | assumption | exact Fr.refl _ _ | refine Fr.new ?_ ?_ _ _ _ | refine Fr.put ?_ ?_ _ | omega | (simp only [RH]; omega)))))
  have hp := fun (H : Heap) (p : Nat) => puts8 (h := H) (b := p) (es := 1) hk (List.length_replicate (n := 32) (a := 0#8))
  have hcl := clampB_length k
  have hp1 := fun (H : Heap) (p : Nat) => puts8 (h := H) (b := p) (es := 1) hcl (List.length_replicate (n := 16) (a := 0#8))
  have hcf := clampB_length ffL
  have hp2 := fun (H : Heap) (p : Nat) => puts8 (h := H) (b := p) (es := 1) hcf (List.length_replicate (n := 16) (a := 0#8))
  repeat (first
    | refine R_seq ?_ | refine R_region ?_ | refine R_nil ?_ | refine Q_seq ?_ | refine Q_norm ?_ | refine Q_seqr ?_ | refine Q_seqx ?_ | refine Q_bl ?_ | refine Q_blr ?_ | refine Q_blx ?_ | refine Q_blo rfl ?_ | refine R_block ?_ | refine R_skip ?_ | refine R_exit ?_ | refine R_ret ?_ | refine I_true ?_ | refine I_false ?_ | refine N_exit ?_ | refine N_ret ?_
    | ((first | apply R_op | apply R_op0)
       · (first | (simp (maxDischargeDepth := 9) only [RA, Nat.reduceEqDiff, Nat.reduceLT, Nat.reduceLeDiff, Nat.reduceAdd, Nat.reduceSub, Nat.reduceMul, Nat.reduceDiv, Nat.reduceMod, Nat.reducePow, Nat.reduceBEq, Nat.reduceGT, reduceIte, e2, hk, hck, hp, hp1, hp2, bu30f, clamp65 10 _ k hk, clamp65 10 _ ffL ffL_length, T3, T5, T30, T38, T56, T57] <;> rfl) | ((repeat (first | (simp (maxDischargeDepth := 9) only [RA, Nat.reduceEqDiff, Nat.reduceLT, Nat.reduceLeDiff, Nat.reduceAdd, Nat.reduceSub, Nat.reduceMul, Nat.reduceDiv, Nat.reduceMod, Nat.reducePow, Nat.reduceBEq, Nat.reduceGT, reduceIte, e2, hk, hck, hp, hp1, hp2, bu30f, clamp65 10 _ k hk, clamp65 10 _ ffL ffL_length, T3, T5, T30, T38, T56, T57]; done) | simp (maxDischargeDepth := 9) only [RA, Nat.reduceEqDiff, Nat.reduceLT, Nat.reduceLeDiff, Nat.reduceAdd, Nat.reduceSub, Nat.reduceMul, Nat.reduceDiv, Nat.reduceMod, Nat.reducePow, Nat.reduceBEq, Nat.reduceGT, reduceIte, e2, hk, hck, hp, hp1, hp2, bu30f, clamp65 10 _ k hk, clamp65 10 _ ffL ffL_length, T3, T5, T30, T38, T56, T57] | simp (disch := first | assumption | omega) only [RV, e2, hk, hck, hp, hp1, hp2, bu30f, clamp65 10 _ k hk, clamp65 10 _ ffL ffL_length, T3, T5, T30, T38, T56, T57])) <;> rfl)))
    | (apply R_cond
       · (simp only [RE, Nat.reduceEqDiff, Nat.reduceLT, Nat.reduceLeDiff, Nat.reduceBEq, reduceIte, e2, hk, hck, hp, hp1, hp2, bu30f, clamp65 10 _ k hk, clamp65 10 _ ffL ffL_length, T3, T5, T30, T38, T56, T57] <;> rfl))
    | (apply R_grd
       · (simp only [yieldedA, RY, Nat.reduceEqDiff, reduceIte, e2, hk, hck, hp, hp1, hp2, bu30f, clamp65 10 _ k hk, clamp65 10 _ ffL ffL_length, T3, T5, T30, T38, T56, T57] <;> rfl)))
  have hbl : (b.take 300).length ≤ 300 := by simp; omega
  generalize b.take 300 = b at b2 hbl
  refine W_heap fun H hH => ?_
  have o0 : H.obj h.nx = some (.row .rw 1 (b8 k)) := by rw [hH]; simp [RH]
  have o1 : H.obj (h.nx + 1) = some (.row .rw 1 (b8 y)) := by rw [hH]; simp [RH]
  have o2 : H.obj (h.nx + 2) = some (.row .rw 1 (b8 (clampB k))) := by rw [hH]; simp [RH]
  have o3 : H.obj (h.nx + 3) = some (.row .rw 1 (b8 (clampB ffL))) := by rw [hH]; simp [RH]
  have o4 : H.obj (h.nx + 4) = some (.row .rw 1 (b8 k)) := by rw [hH]; simp [RH]
  have nH : H.nx = h.nx + 5 := by rw [hH]; simp [RH]
  have b2H : By H v2 b := by rw [hH]; exact b2.fr0 (by (repeat (first | assumption | exact Fr.refl _ _ | refine Fr.new ?_ ?_ _ _ _ | refine Fr.put ?_ ?_ _ | omega | (simp only [RH]; omega))))
  clear hH
  refine W_loopK [1, 3, 5, 7, 8, 9, 37, 38, 39, 40, 41, 42, 43] [h.nx, h.nx + 1, h.nx + 2, h.nx + 3] (fun i e1 h1 => e1 10 = iv i ∧ h1.obj (h.nx + 4) = some (.row .rw 1 (b8 (othL k y i))) ∧ Fr (h.nx + 4) H h1 ∧ (∀ r, r ≠ h.nx + 4 → h1.obj r = H.obj r)) 16 (by decide) ?_ ?_ ?_
  · exact ⟨by (try simp only [List.map_cons, List.map_nil, RH, Nat.reduceAdd, Nat.reduceEqDiff, reduceIte, ev_tmp, ev_const, lit_iv, lit_w8, lit_w32, lit_w64, envOf0, envOf1, envOf2, envOf3, envOf4, envOf5, T3, T5, T30, T38, T56, T57]), by rw [othL_zero]; exact o4, .refl _ _, fun _ _ => rfl⟩
  · intro i hi e1 h1 hK hO hN ⟨j10, o5, F1, f1⟩
    simp only [List.map_cons, List.map_nil, List.cons.injEq, and_true, RH, Nat.reduceAdd, Nat.reduceEqDiff, reduceIte, envOf0, envOf1, envOf2, envOf3, envOf4, envOf5, o0, o1, o2, o3] at hK
    obtain ⟨K0_1, K0_3, K0_5, K0_7, K0_8, K0_9, K0_37, K0_38, K0_39, K0_40, K0_41, K0_42, K0_43⟩ := hK
    simp only [List.map_cons, List.map_nil, List.cons.injEq, and_true, RH, Nat.reduceAdd, Nat.reduceEqDiff, reduceIte, envOf0, envOf1, envOf2, envOf3, envOf4, envOf5, o0, o1, o2, o3] at hO
    obtain ⟨O0_0, O0_1, O0_2, O0_3⟩ := hO
    try simp only [RH] at hN
    have hl := othL_length (y := y) (i := i) hk (by omega)
    have hs := othL_set (y := y) (i := i) hk (by omega)
    have hi32 : i < 32 := by omega
    repeat (first
      | refine R_seq ?_ | refine R_region ?_ | refine R_nil ?_ | refine Q_seq ?_ | refine Q_norm ?_ | refine Q_seqr ?_ | refine Q_seqx ?_ | refine Q_bl ?_ | refine Q_blr ?_ | refine Q_blx ?_ | refine Q_blo rfl ?_ | refine R_block ?_ | refine R_skip ?_ | refine R_exit ?_ | refine R_ret ?_ | refine I_true ?_ | refine I_false ?_ | refine N_exit ?_ | refine N_ret ?_
      | (refine R_draw (by kernel_rfl) ?_)
      | ((first | apply R_op | apply R_op0)
         · (first | (simp (maxDischargeDepth := 9) only [RA, Nat.reduceEqDiff, Nat.reduceLT, Nat.reduceLeDiff, Nat.reduceAdd, Nat.reduceSub, Nat.reduceMul, Nat.reduceDiv, Nat.reduceMod, Nat.reducePow, Nat.reduceBEq, Nat.reduceGT, reduceIte, j10, hi, hi32, o5, hl, hs, hcl, hcf, hy, T3, T5, T30, T38, T56, T57, K0_1, K0_3, K0_5, K0_7, K0_8, K0_9, K0_37, K0_38, K0_39, K0_40, K0_41, K0_42, K0_43, O0_0, O0_1, O0_2, O0_3] <;> rfl) | ((repeat (first | (simp (maxDischargeDepth := 9) only [RA, Nat.reduceEqDiff, Nat.reduceLT, Nat.reduceLeDiff, Nat.reduceAdd, Nat.reduceSub, Nat.reduceMul, Nat.reduceDiv, Nat.reduceMod, Nat.reducePow, Nat.reduceBEq, Nat.reduceGT, reduceIte, j10, hi, hi32, o5, hl, hs, hcl, hcf, hy, T3, T5, T30, T38, T56, T57, K0_1, K0_3, K0_5, K0_7, K0_8, K0_9, K0_37, K0_38, K0_39, K0_40, K0_41, K0_42, K0_43, O0_0, O0_1, O0_2, O0_3]; done) | simp (maxDischargeDepth := 9) only [RA, Nat.reduceEqDiff, Nat.reduceLT, Nat.reduceLeDiff, Nat.reduceAdd, Nat.reduceSub, Nat.reduceMul, Nat.reduceDiv, Nat.reduceMod, Nat.reducePow, Nat.reduceBEq, Nat.reduceGT, reduceIte, j10, hi, hi32, o5, hl, hs, hcl, hcf, hy, T3, T5, T30, T38, T56, T57, K0_1, K0_3, K0_5, K0_7, K0_8, K0_9, K0_37, K0_38, K0_39, K0_40, K0_41, K0_42, K0_43, O0_0, O0_1, O0_2, O0_3] | simp (disch := first | assumption | omega) only [RV, j10, hi, hi32, o5, hl, hs, hcl, hcf, hy, T3, T5, T30, T38, T56, T57, K0_1, K0_3, K0_5, K0_7, K0_8, K0_9, K0_37, K0_38, K0_39, K0_40, K0_41, K0_42, K0_43, O0_0, O0_1, O0_2, O0_3])) <;> rfl)))
      | (apply R_cond
         · (simp only [RE, Nat.reduceEqDiff, Nat.reduceLT, Nat.reduceLeDiff, Nat.reduceBEq, reduceIte, j10, hi, hi32, o5, hl, hs, hcl, hcf, hy, T3, T5, T30, T38, T56, T57, K0_1, K0_3, K0_5, K0_7, K0_8, K0_9, K0_37, K0_38, K0_39, K0_40, K0_41, K0_42, K0_43, O0_0, O0_1, O0_2, O0_3] <;> rfl))
      | (apply R_grd
         · (simp only [yieldedA, RY, Nat.reduceEqDiff, reduceIte, j10, hi, hi32, o5, hl, hs, hcl, hcf, hy, T3, T5, T30, T38, T56, T57, K0_1, K0_3, K0_5, K0_7, K0_8, K0_9, K0_37, K0_38, K0_39, K0_40, K0_41, K0_42, K0_43, O0_0, O0_1, O0_2, O0_3] <;> rfl)))
    refine ⟨rfl, by first | rfl | simp only [List.map_cons, List.map_nil, RH, Nat.reduceAdd, Nat.reduceEqDiff, reduceIte, T3, T5, T30, T38, T56, T57, K0_1, K0_3, K0_5, K0_7, K0_8, K0_9, K0_37, K0_38, K0_39, K0_40, K0_41, K0_42, K0_43, O0_0, O0_1, O0_2, O0_3], by first | rfl | simp only [List.map_cons, List.map_nil, RH, Nat.reduceAdd, Nat.reduceEqDiff, reduceIte, T3, T5, T30, T38, T56, T57, K0_1, K0_3, K0_5, K0_7, K0_8, K0_9, K0_37, K0_38, K0_39, K0_40, K0_41, K0_42, K0_43, O0_0, O0_1, O0_2, O0_3], by first | (simp only [RH, T3, T5, T30, T38, T56, T57, K0_1, K0_3, K0_5, K0_7, K0_8, K0_9, K0_37, K0_38, K0_39, K0_40, K0_41, K0_42, K0_43, O0_0, O0_1, O0_2, O0_3]; done) | ((try simp only [RH, T3, T5, T30, T38, T56, T57, K0_1, K0_3, K0_5, K0_7, K0_8, K0_9, K0_37, K0_38, K0_39, K0_40, K0_41, K0_42, K0_43, O0_0, O0_1, O0_2, O0_3]); omega), ?_⟩
    exact ⟨by (try simp only [List.map_cons, List.map_nil, RH, Nat.reduceAdd, Nat.reduceEqDiff, reduceIte, ev_tmp, ev_const, lit_iv, lit_w8, lit_w32, lit_w64, envOf0, envOf1, envOf2, envOf3, envOf4, envOf5, T3, T5, T30, T38, T56, T57, K0_1, K0_3, K0_5, K0_7, K0_8, K0_9, K0_37, K0_38, K0_39, K0_40, K0_41, K0_42, K0_43, O0_0, O0_1, O0_2, O0_3]), by simp [RH], by (repeat (first | assumption | exact Fr.refl _ _ | refine Fr.new ?_ ?_ _ _ _ | refine Fr.put ?_ ?_ _ | omega | (simp only [RH]; omega))), fun r hr => by rw [obj_put, if_neg hr]; exact f1 r hr⟩
  · intro e1 h1 hK hO hN ⟨j10, o5, F1, f1⟩
    simp only [List.map_cons, List.map_nil, List.cons.injEq, and_true, RH, Nat.reduceAdd, Nat.reduceEqDiff, reduceIte, envOf0, envOf1, envOf2, envOf3, envOf4, envOf5, o0, o1, o2, o3] at hK
    obtain ⟨K0_1, K0_3, K0_5, K0_7, K0_8, K0_9, K0_37, K0_38, K0_39, K0_40, K0_41, K0_42, K0_43⟩ := hK
    simp only [List.map_cons, List.map_nil, List.cons.injEq, and_true, RH, Nat.reduceAdd, Nat.reduceEqDiff, reduceIte, envOf0, envOf1, envOf2, envOf3, envOf4, envOf5, o0, o1, o2, o3] at hO
    obtain ⟨O0_0, O0_1, O0_2, O0_3⟩ := hO
    try simp only [RH] at hN
    have hl := othL_length (y := y) (i := 16) hk (by omega)
    have hpo := othL_poly (k := k) (y := y) b
    have b21 : By h1 v2 b := b2H.keep hN (fun r hr => f1 r (fun he => by have := r2 r hr; have := hb.lt r this; omega))
    generalize othL k y 16 = z at o5 hl hpo
    repeat (first
      | refine R_seq ?_ | refine R_region ?_ | refine R_nil ?_ | refine Q_seq ?_ | refine Q_norm ?_ | refine Q_seqr ?_ | refine Q_seqx ?_ | refine Q_bl ?_ | refine Q_blr ?_ | refine Q_blx ?_ | refine Q_blo rfl ?_ | refine R_block ?_ | refine R_skip ?_ | refine R_exit ?_ | refine R_ret ?_ | refine I_true ?_ | refine I_false ?_ | refine N_exit ?_ | refine N_ret ?_
      | ((first | apply R_op | apply R_op0)
         · (first | (simp (maxDischargeDepth := 9) only [RA, Nat.reduceEqDiff, Nat.reduceLT, Nat.reduceLeDiff, Nat.reduceAdd, Nat.reduceSub, Nat.reduceMul, Nat.reduceDiv, Nat.reduceMod, Nat.reducePow, Nat.reduceBEq, Nat.reduceGT, reduceIte, j10, T3, T5, T30, T38, T56, T57, K0_1, K0_3, K0_5, K0_7, K0_8, K0_9, K0_37, K0_38, K0_39, K0_40, K0_41, K0_42, K0_43, O0_0, O0_1, O0_2, O0_3] <;> rfl) | ((repeat (first | (simp (maxDischargeDepth := 9) only [RA, Nat.reduceEqDiff, Nat.reduceLT, Nat.reduceLeDiff, Nat.reduceAdd, Nat.reduceSub, Nat.reduceMul, Nat.reduceDiv, Nat.reduceMod, Nat.reducePow, Nat.reduceBEq, Nat.reduceGT, reduceIte, j10, T3, T5, T30, T38, T56, T57, K0_1, K0_3, K0_5, K0_7, K0_8, K0_9, K0_37, K0_38, K0_39, K0_40, K0_41, K0_42, K0_43, O0_0, O0_1, O0_2, O0_3]; done) | simp (maxDischargeDepth := 9) only [RA, Nat.reduceEqDiff, Nat.reduceLT, Nat.reduceLeDiff, Nat.reduceAdd, Nat.reduceSub, Nat.reduceMul, Nat.reduceDiv, Nat.reduceMod, Nat.reducePow, Nat.reduceBEq, Nat.reduceGT, reduceIte, j10, T3, T5, T30, T38, T56, T57, K0_1, K0_3, K0_5, K0_7, K0_8, K0_9, K0_37, K0_38, K0_39, K0_40, K0_41, K0_42, K0_43, O0_0, O0_1, O0_2, O0_3] | simp (disch := first | assumption | omega) only [RV, j10, T3, T5, T30, T38, T56, T57, K0_1, K0_3, K0_5, K0_7, K0_8, K0_9, K0_37, K0_38, K0_39, K0_40, K0_41, K0_42, K0_43, O0_0, O0_1, O0_2, O0_3])) <;> rfl)))
      | (apply R_cond
         · (simp only [RE, Nat.reduceEqDiff, Nat.reduceLT, Nat.reduceLeDiff, Nat.reduceBEq, reduceIte, j10, T3, T5, T30, T38, T56, T57, K0_1, K0_3, K0_5, K0_7, K0_8, K0_9, K0_37, K0_38, K0_39, K0_40, K0_41, K0_42, K0_43, O0_0, O0_1, O0_2, O0_3] <;> rfl))
      | (apply R_grd
         · (simp only [yieldedA, RY, Nat.reduceEqDiff, reduceIte, j10, T3, T5, T30, T38, T56, T57, K0_1, K0_3, K0_5, K0_7, K0_8, K0_9, K0_37, K0_38, K0_39, K0_40, K0_41, K0_42, K0_43, O0_0, O0_1, O0_2, O0_3] <;> rfl)))
    have hS0 : h.nx < h1.nx := by omega
    have hS1 : h.nx + 4 < h1.nx := by omega
    have hT := polyT_length k b
    refine D_draw [0, 2, 4, 5, 7] (fun r => r < h1.nx) (by kernel_rfl) ?_
    repeat (first
      | refine D_nil ?_ | refine I_true ?_ | refine I_false ?_
      | ((first | apply D_op | apply D_op0)
         · (first | (simp (maxDischargeDepth := 9) only [RA, Nat.reduceEqDiff, Nat.reduceLT, Nat.reduceLeDiff, Nat.reduceAdd, Nat.reduceSub, Nat.reduceMul, Nat.reduceDiv, Nat.reduceMod, Nat.reducePow, Nat.reduceBEq, Nat.reduceGT, reduceIte, live62 1, hS0, hS1, hk, hck, T3, T5, T30, T38, T56, T57, K0_1, K0_3, K0_5, K0_7, K0_8, K0_9, K0_37, K0_38, K0_39, K0_40, K0_41, K0_42, K0_43, O0_0, O0_1, O0_2, O0_3] <;> rfl) | ((repeat (first | (simp (maxDischargeDepth := 9) only [RA, Nat.reduceEqDiff, Nat.reduceLT, Nat.reduceLeDiff, Nat.reduceAdd, Nat.reduceSub, Nat.reduceMul, Nat.reduceDiv, Nat.reduceMod, Nat.reducePow, Nat.reduceBEq, Nat.reduceGT, reduceIte, live62 1, hS0, hS1, hk, hck, T3, T5, T30, T38, T56, T57, K0_1, K0_3, K0_5, K0_7, K0_8, K0_9, K0_37, K0_38, K0_39, K0_40, K0_41, K0_42, K0_43, O0_0, O0_1, O0_2, O0_3]; done) | simp (maxDischargeDepth := 9) only [RA, Nat.reduceEqDiff, Nat.reduceLT, Nat.reduceLeDiff, Nat.reduceAdd, Nat.reduceSub, Nat.reduceMul, Nat.reduceDiv, Nat.reduceMod, Nat.reducePow, Nat.reduceBEq, Nat.reduceGT, reduceIte, live62 1, hS0, hS1, hk, hck, T3, T5, T30, T38, T56, T57, K0_1, K0_3, K0_5, K0_7, K0_8, K0_9, K0_37, K0_38, K0_39, K0_40, K0_41, K0_42, K0_43, O0_0, O0_1, O0_2, O0_3] | simp (disch := first | assumption | omega) only [RV, live62 1, hS0, hS1, hk, hck, T3, T5, T30, T38, T56, T57, K0_1, K0_3, K0_5, K0_7, K0_8, K0_9, K0_37, K0_38, K0_39, K0_40, K0_41, K0_42, K0_43, O0_0, O0_1, O0_2, O0_3])) <;> rfl))
         · (intro hF; first | exact chk_pure rfl | exact chk_alloc rfl | exact chk_read rfl | exact chk_iso iso61 | exact chk_call iso61 (fun _ _ _ => rfl) | exact chk_iso iso62 | exact chk_call iso62 (fun _ _ _ => rfl) | exact chk_iso iso63 | exact chk_call iso63 (fun _ _ _ => rfl) | exact chk_iso iso65 | exact chk_call iso65 (fun _ _ _ => rfl) | (exfalso; revert hF; decide) | ((first | refine chk_load ?_ | refine chk_slice ?_ | refine chk_convert ?_ | refine chk_store ?_ | refine chk_call (by kernel_rfl) ?_); simp only [eq_self, ev_tmp, upd_apply, rowsOfV, List.mem_cons, List.not_mem_nil, or_false, forall_eq, forall_eq_or_imp, obj_put, obj_new, nx_new, nx_put, Nat.reduceEqDiff, if_true, if_false, reduceIte, implies_true, and_self, and_true, true_or, or_true, live62 1, hS0, hS1, hk, hck, T3, T5, T30, T38, T56, T57, K0_1, K0_3, K0_5, K0_7, K0_8, K0_9, K0_37, K0_38, K0_39, K0_40, K0_41, K0_42, K0_43, O0_0, O0_1, O0_2, O0_3])))
      | (apply D_grd
         · (simp only [yieldedA, RY, Nat.reduceEqDiff, reduceIte, live62 1, hS0, hS1, hk, hck, T3, T5, T30, T38, T56, T57, K0_1, K0_3, K0_5, K0_7, K0_8, K0_9, K0_37, K0_38, K0_39, K0_40, K0_41, K0_42, K0_43, O0_0, O0_1, O0_2, O0_3] <;> rfl)))
    refine D_fn ?_ (sum63 4 h1 k hk v2 b b21 (by omega)) iso63 (fun v4 h4 hp _ r _ hr => hp.2.2 r hr) ?_
    · rfl
    intro v3 h3 ⟨hv3, F3⟩
    subst hv3
    have n3 := F3.1
    have q1 := F3.2 (h.nx + 4) (by omega)
    rw [o5] at q1
    repeat (first
      | refine D_nil ?_ | refine I_true ?_ | refine I_false ?_
      | ((first | apply D_op | apply D_op0)
         · (first | (simp (maxDischargeDepth := 9) only [RA, Nat.reduceEqDiff, Nat.reduceLT, Nat.reduceLeDiff, Nat.reduceAdd, Nat.reduceSub, Nat.reduceMul, Nat.reduceDiv, Nat.reduceMod, Nat.reducePow, Nat.reduceBEq, Nat.reduceGT, reduceIte, q1, hS0, hS1, cut8 hl, T3, T5, T30, T38, T56, T57, K0_1, K0_3, K0_5, K0_7, K0_8, K0_9, K0_37, K0_38, K0_39, K0_40, K0_41, K0_42, K0_43, O0_0, O0_1, O0_2, O0_3] <;> rfl) | ((repeat (first | (simp (maxDischargeDepth := 9) only [RA, Nat.reduceEqDiff, Nat.reduceLT, Nat.reduceLeDiff, Nat.reduceAdd, Nat.reduceSub, Nat.reduceMul, Nat.reduceDiv, Nat.reduceMod, Nat.reducePow, Nat.reduceBEq, Nat.reduceGT, reduceIte, q1, hS0, hS1, cut8 hl, T3, T5, T30, T38, T56, T57, K0_1, K0_3, K0_5, K0_7, K0_8, K0_9, K0_37, K0_38, K0_39, K0_40, K0_41, K0_42, K0_43, O0_0, O0_1, O0_2, O0_3]; done) | simp (maxDischargeDepth := 9) only [RA, Nat.reduceEqDiff, Nat.reduceLT, Nat.reduceLeDiff, Nat.reduceAdd, Nat.reduceSub, Nat.reduceMul, Nat.reduceDiv, Nat.reduceMod, Nat.reducePow, Nat.reduceBEq, Nat.reduceGT, reduceIte, q1, hS0, hS1, cut8 hl, T3, T5, T30, T38, T56, T57, K0_1, K0_3, K0_5, K0_7, K0_8, K0_9, K0_37, K0_38, K0_39, K0_40, K0_41, K0_42, K0_43, O0_0, O0_1, O0_2, O0_3] | simp (disch := first | assumption | omega) only [RV, q1, hS0, hS1, cut8 hl, T3, T5, T30, T38, T56, T57, K0_1, K0_3, K0_5, K0_7, K0_8, K0_9, K0_37, K0_38, K0_39, K0_40, K0_41, K0_42, K0_43, O0_0, O0_1, O0_2, O0_3])) <;> rfl))
         · (intro hF; first | exact chk_pure rfl | exact chk_alloc rfl | exact chk_read rfl | exact chk_iso iso61 | exact chk_call iso61 (fun _ _ _ => rfl) | exact chk_iso iso62 | exact chk_call iso62 (fun _ _ _ => rfl) | exact chk_iso iso63 | exact chk_call iso63 (fun _ _ _ => rfl) | exact chk_iso iso65 | exact chk_call iso65 (fun _ _ _ => rfl) | (exfalso; revert hF; decide) | ((first | refine chk_load ?_ | refine chk_slice ?_ | refine chk_convert ?_ | refine chk_store ?_ | refine chk_call (by kernel_rfl) ?_); simp only [eq_self, ev_tmp, upd_apply, rowsOfV, List.mem_cons, List.not_mem_nil, or_false, forall_eq, forall_eq_or_imp, obj_put, obj_new, nx_new, nx_put, Nat.reduceEqDiff, if_true, if_false, reduceIte, implies_true, and_self, and_true, true_or, or_true, q1, hS0, hS1, cut8 hl, T3, T5, T30, T38, T56, T57, K0_1, K0_3, K0_5, K0_7, K0_8, K0_9, K0_37, K0_38, K0_39, K0_40, K0_41, K0_42, K0_43, O0_0, O0_1, O0_2, O0_3])))
      | (apply D_grd
         · (simp only [yieldedA, RY, Nat.reduceEqDiff, reduceIte, q1, hS0, hS1, cut8 hl, T3, T5, T30, T38, T56, T57, K0_1, K0_3, K0_5, K0_7, K0_8, K0_9, K0_37, K0_38, K0_39, K0_40, K0_41, K0_42, K0_43, O0_0, O0_1, O0_2, O0_3] <;> rfl)))
    refine D_fn ?_ (sum63 4 h3 z hl v2 b (b21.fr0 F3) (by omega)) iso63 (fun v4 h4 hp _ r _ hr => hp.2.2 r (by omega)) ?_
    · rfl
    intro v4 h4 ⟨hv4, F4⟩
    subst hv4
    rw [hpo]
    repeat (first
      | refine D_nil ?_ | refine I_true ?_ | refine I_false ?_
      | ((first | apply D_op | apply D_op0)
         · (first | (simp (maxDischargeDepth := 9) only [RA, Nat.reduceEqDiff, Nat.reduceLT, Nat.reduceLeDiff, Nat.reduceAdd, Nat.reduceSub, Nat.reduceMul, Nat.reduceDiv, Nat.reduceMod, Nat.reducePow, Nat.reduceBEq, Nat.reduceGT, reduceIte, beq57 hT hT, T3, T5, T30, T38, T56, T57, K0_1, K0_3, K0_5, K0_7, K0_8, K0_9, K0_37, K0_38, K0_39, K0_40, K0_41, K0_42, K0_43, O0_0, O0_1, O0_2, O0_3] <;> rfl) | ((repeat (first | (simp (maxDischargeDepth := 9) only [RA, Nat.reduceEqDiff, Nat.reduceLT, Nat.reduceLeDiff, Nat.reduceAdd, Nat.reduceSub, Nat.reduceMul, Nat.reduceDiv, Nat.reduceMod, Nat.reducePow, Nat.reduceBEq, Nat.reduceGT, reduceIte, beq57 hT hT, T3, T5, T30, T38, T56, T57, K0_1, K0_3, K0_5, K0_7, K0_8, K0_9, K0_37, K0_38, K0_39, K0_40, K0_41, K0_42, K0_43, O0_0, O0_1, O0_2, O0_3]; done) | simp (maxDischargeDepth := 9) only [RA, Nat.reduceEqDiff, Nat.reduceLT, Nat.reduceLeDiff, Nat.reduceAdd, Nat.reduceSub, Nat.reduceMul, Nat.reduceDiv, Nat.reduceMod, Nat.reducePow, Nat.reduceBEq, Nat.reduceGT, reduceIte, beq57 hT hT, T3, T5, T30, T38, T56, T57, K0_1, K0_3, K0_5, K0_7, K0_8, K0_9, K0_37, K0_38, K0_39, K0_40, K0_41, K0_42, K0_43, O0_0, O0_1, O0_2, O0_3] | simp (disch := first | assumption | omega) only [RV, beq57 hT hT, T3, T5, T30, T38, T56, T57, K0_1, K0_3, K0_5, K0_7, K0_8, K0_9, K0_37, K0_38, K0_39, K0_40, K0_41, K0_42, K0_43, O0_0, O0_1, O0_2, O0_3])) <;> rfl))
         · (intro hF; first | exact chk_pure rfl | exact chk_alloc rfl | exact chk_read rfl | exact chk_iso iso61 | exact chk_call iso61 (fun _ _ _ => rfl) | exact chk_iso iso62 | exact chk_call iso62 (fun _ _ _ => rfl) | exact chk_iso iso63 | exact chk_call iso63 (fun _ _ _ => rfl) | exact chk_iso iso65 | exact chk_call iso65 (fun _ _ _ => rfl) | (exfalso; revert hF; decide) | ((first | refine chk_load ?_ | refine chk_slice ?_ | refine chk_convert ?_ | refine chk_store ?_ | refine chk_call (by kernel_rfl) ?_); simp only [eq_self, ev_tmp, upd_apply, rowsOfV, List.mem_cons, List.not_mem_nil, or_false, forall_eq, forall_eq_or_imp, obj_put, obj_new, nx_new, nx_put, Nat.reduceEqDiff, if_true, if_false, reduceIte, implies_true, and_self, and_true, true_or, or_true, beq57 hT hT, T3, T5, T30, T38, T56, T57, K0_1, K0_3, K0_5, K0_7, K0_8, K0_9, K0_37, K0_38, K0_39, K0_40, K0_41, K0_42, K0_43, O0_0, O0_1, O0_2, O0_3])))
      | (apply D_grd
         · (simp only [yieldedA, RY, Nat.reduceEqDiff, reduceIte, beq57 hT hT, T3, T5, T30, T38, T56, T57, K0_1, K0_3, K0_5, K0_7, K0_8, K0_9, K0_37, K0_38, K0_39, K0_40, K0_41, K0_42, K0_43, O0_0, O0_1, O0_2, O0_3] <;> rfl)))
    repeat (first
      | refine R_seq ?_ | refine R_region ?_ | refine R_nil ?_ | refine Q_seq ?_ | refine Q_norm ?_ | refine Q_seqr ?_ | refine Q_seqx ?_ | refine Q_bl ?_ | refine Q_blr ?_ | refine Q_blx ?_ | refine Q_blo rfl ?_ | refine R_block ?_ | refine R_skip ?_ | refine R_exit ?_ | refine R_ret ?_ | refine I_true ?_ | refine I_false ?_ | refine N_exit ?_ | refine N_ret ?_
      | ((first | apply R_op | apply R_op0)
         · (first | (simp (maxDischargeDepth := 9) only [RA, Nat.reduceEqDiff, Nat.reduceLT, Nat.reduceLeDiff, Nat.reduceAdd, Nat.reduceSub, Nat.reduceMul, Nat.reduceDiv, Nat.reduceMod, Nat.reducePow, Nat.reduceBEq, Nat.reduceGT, reduceIte, T3, T5, T30, T38, T56, T57, K0_1, K0_3, K0_5, K0_7, K0_8, K0_9, K0_37, K0_38, K0_39, K0_40, K0_41, K0_42, K0_43, O0_0, O0_1, O0_2, O0_3] <;> rfl) | ((repeat (first | (simp (maxDischargeDepth := 9) only [RA, Nat.reduceEqDiff, Nat.reduceLT, Nat.reduceLeDiff, Nat.reduceAdd, Nat.reduceSub, Nat.reduceMul, Nat.reduceDiv, Nat.reduceMod, Nat.reducePow, Nat.reduceBEq, Nat.reduceGT, reduceIte, T3, T5, T30, T38, T56, T57, K0_1, K0_3, K0_5, K0_7, K0_8, K0_9, K0_37, K0_38, K0_39, K0_40, K0_41, K0_42, K0_43, O0_0, O0_1, O0_2, O0_3]; done) | simp (maxDischargeDepth := 9) only [RA, Nat.reduceEqDiff, Nat.reduceLT, Nat.reduceLeDiff, Nat.reduceAdd, Nat.reduceSub, Nat.reduceMul, Nat.reduceDiv, Nat.reduceMod, Nat.reducePow, Nat.reduceBEq, Nat.reduceGT, reduceIte, T3, T5, T30, T38, T56, T57, K0_1, K0_3, K0_5, K0_7, K0_8, K0_9, K0_37, K0_38, K0_39, K0_40, K0_41, K0_42, K0_43, O0_0, O0_1, O0_2, O0_3] | simp (disch := first | assumption | omega) only [RV, T3, T5, T30, T38, T56, T57, K0_1, K0_3, K0_5, K0_7, K0_8, K0_9, K0_37, K0_38, K0_39, K0_40, K0_41, K0_42, K0_43, O0_0, O0_1, O0_2, O0_3])) <;> rfl)))
      | (apply R_cond
         · (simp only [RE, Nat.reduceEqDiff, Nat.reduceLT, Nat.reduceLeDiff, Nat.reduceBEq, reduceIte, T3, T5, T30, T38, T56, T57, K0_1, K0_3, K0_5, K0_7, K0_8, K0_9, K0_37, K0_38, K0_39, K0_40, K0_41, K0_42, K0_43, O0_0, O0_1, O0_2, O0_3] <;> rfl))
      | (apply R_grd
         · (simp only [yieldedA, RY, Nat.reduceEqDiff, reduceIte, T3, T5, T30, T38, T56, T57, K0_1, K0_3, K0_5, K0_7, K0_8, K0_9, K0_37, K0_38, K0_39, K0_40, K0_41, K0_42, K0_43, O0_0, O0_1, O0_2, O0_3] <;> rfl)))
    (first | refine ⟨.inr rfl, _, rfl, ?_⟩ | refine ⟨.inl rfl, _, rfl, ?_⟩) <;> simp only [packR, upd_apply, Nat.reduceEqDiff, if_true, if_false, reduceIte]
theorem wl21 (h : Heap) (avs : List Value) (ty : TyVs Try.prog 8 h [30, 38, 56] avs) : ∃ v h', evF (cfg0 Try.prog) 13 21 avs h = some (.ok v, h') ∧ v = .bool true := by
  match avs, ty with
  | [u, w, y], ⟨s0, s1, s2, _⟩ =>
    obtain ⟨k, hk, rfl⟩ := tyv30 s0
    obtain ⟨ys, hc, _⟩ := tyv38 s1
    obtain ⟨z, hz, rfl⟩ := tyv56 s2
    exact law21 h k hk w ys hc z hz
end Go.Proofs.Ytfehhihllenjiaa
