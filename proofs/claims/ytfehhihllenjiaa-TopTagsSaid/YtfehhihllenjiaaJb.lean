/- Tags: a hash that is begun, and its sum. -/
import Derived.Test.YtfehhihllenjiaaJa
import Derived.Test.YtfehhihllenjiaaGt
set_option linter.all false
namespace Go.Proofs.Ytfehhihllenjiaa
open Go.Proofs
theorem bu122 : evBuild Try.prog 122 [] = some (.agg ⟨[.slice none 0 0]⟩) := by kernel_rfl
theorem box122 {h : Heap} : evBox (.agg ⟨[.slice none 0 0]⟩) h = some (.pointer (some ⟨h.nx, 0, none⟩), newRowH h .rw 1 [.slice none 0 0]) := box_agg rfl
def turnB (k : List (BitVec 8)) (x : BitVec 8) : List (BitVec 8) := k.map (· ^^^ x)
theorem turnB_succ {k : List (BitVec 8)} {x : BitVec 8} {i : Nat} (hi : i < k.length) : turnB (k.take i) x ++ [k.getD i 0#8 ^^^ x] = turnB (k.take (i + 1)) x := by
  unfold turnB
  rw [List.take_succ_eq_append_getElem hi, List.map_append, List.getD_eq_getElem?_getD, List.getElem?_eq_getElem hi]
  rfl
theorem turnB_length (k : List (BitVec 8)) (x : BitVec 8) : (turnB k x).length = k.length := by simp [turnB]
attribute [local irreducible] evOps iter evD evF evC evLoad evStore evAlloc evIndexAddr evIndex evLenB evBox evBin evUn evConvert evExtract evSlice evAppend evCopy evNil evBuild evMakeSlice evBuildSlice evBuiltin Program.underlying
attribute [local irreducible] catN sumS turnB
theorem inl107 : inlOf Try.prog 107 = true := by kernel_rfl
theorem iso107 : isoOf Try.prog 107 = false := by kernel_rfl
set_option maxRecDepth 20000 in
set_option maxHeartbeats 8000000 in
theorem begin107 (q : Nat) (h : Heap) (k : List (BitVec 8)) (hk : k.length = 64) (x : BitVec 8) :
    ∃ v' h', fcall Try.prog (q + 2) (.func (.func 107) #[] #[]) [.agg ⟨b8 k⟩, w8 x] h = some (.ok v', h') ∧
      ∃ p v1, v' = .pointer (some ⟨p, 0, none⟩) ∧ h.nx ≤ p ∧ p < h'.nx ∧ h'.obj p = some (.row .rw 1 [v1]) ∧ OwB h.nx h' v1 (turnB k x) ∧ p ∉ rowsOfV v1 ∧ Fr h.nx h h' := by
  rw [fcall_inl inl107 iso107, evF_eq Try.func107 rfl]
  apply evEnd_of_W
  simp only [Try.f107]
  repeat (first
    | refine R_seq ?_ | refine R_region ?_ | refine R_nil ?_ | refine Q_seq ?_ | refine Q_norm ?_ | refine Q_seqr ?_ | refine Q_seqx ?_ | refine Q_bl ?_ | refine Q_blr ?_ | refine Q_blx ?_ | refine Q_blo rfl ?_ | refine R_block ?_ | refine R_skip ?_ | refine R_exit ?_ | refine R_ret ?_ | refine I_true ?_ | refine I_false ?_ | refine N_exit ?_ | refine N_ret ?_
    | (refine R_draw (by kernel_rfl) ?_)
    | ((first | apply R_op | apply R_op0)
       · (first | (simp (maxDischargeDepth := 9) only [RA, Nat.reduceEqDiff, Nat.reduceLT, Nat.reduceLeDiff, Nat.reduceAdd, Nat.reduceSub, Nat.reduceMul, Nat.reduceDiv, Nat.reduceMod, Nat.reducePow, Nat.reduceBEq, Nat.reduceGT, reduceIte, bu122, box122, cut8 hk, T1, T3, T5, T33, T38, T120, T122, T134] <;> rfl) | ((repeat (first | (simp (maxDischargeDepth := 9) only [RA, Nat.reduceEqDiff, Nat.reduceLT, Nat.reduceLeDiff, Nat.reduceAdd, Nat.reduceSub, Nat.reduceMul, Nat.reduceDiv, Nat.reduceMod, Nat.reducePow, Nat.reduceBEq, Nat.reduceGT, reduceIte, bu122, box122, cut8 hk, T1, T3, T5, T33, T38, T120, T122, T134]; done) | simp (maxDischargeDepth := 9) only [RA, Nat.reduceEqDiff, Nat.reduceLT, Nat.reduceLeDiff, Nat.reduceAdd, Nat.reduceSub, Nat.reduceMul, Nat.reduceDiv, Nat.reduceMod, Nat.reducePow, Nat.reduceBEq, Nat.reduceGT, reduceIte, bu122, box122, cut8 hk, T1, T3, T5, T33, T38, T120, T122, T134] | simp (disch := first | assumption | omega) only [RV, bu122, box122, cut8 hk, T1, T3, T5, T33, T38, T120, T122, T134])) <;> rfl)))
    | (apply R_cond
       · (simp only [RE, Nat.reduceEqDiff, Nat.reduceLT, Nat.reduceLeDiff, Nat.reduceBEq, reduceIte, bu122, box122, cut8 hk, T1, T3, T5, T33, T38, T120, T122, T134] <;> rfl))
    | (apply R_grd
       · (simp only [yieldedA, RY, Nat.reduceEqDiff, reduceIte, bu122, box122, cut8 hk, T1, T3, T5, T33, T38, T120, T122, T134] <;> rfl)))
  refine W_loopK [1, 5, 10] [] (fun i e1 h1 => e1 11 = iv i ∧ ∃ v1, h1.obj (h.nx + 1) = some (.row .rw 1 [v1]) ∧ OwB (h.nx + 2) h1 v1 (turnB (k.take i) x) ∧ Fr h.nx h h1 ∧ h.nx + 2 ≤ h1.nx) 64 (by decide) ?_ ?_ ?_
  · refine ⟨by (try simp only [List.map_cons, List.map_nil, RH, Nat.reduceAdd, Nat.reduceEqDiff, reduceIte, ev_tmp, ev_const, lit_iv, lit_w8, lit_w32, lit_w64, envOf0, envOf1, envOf2, envOf3, envOf4, envOf5, T1, T3, T5, T33, T38, T120, T122, T134]), .slice none 0 0, by (try simp only [List.map_cons, List.map_nil, RH, Nat.reduceAdd, Nat.reduceEqDiff, reduceIte, ev_tmp, ev_const, lit_iv, lit_w8, lit_w32, lit_w64, envOf0, envOf1, envOf2, envOf3, envOf4, envOf5, T1, T3, T5, T33, T38, T120, T122, T134]), ?_, by (repeat (first | assumption | exact Fr.refl _ _ | refine Fr.new ?_ ?_ _ _ _ | refine Fr.put ?_ ?_ _ | omega | (simp only [RH]; omega))), by simp only [RH]; omega⟩
    rw [show turnB (k.take 0) x = [] from by unfold turnB; simp]
    exact .nil
  · intro i hi e1 h1 hK hO hN ⟨j11, v1, o1, own1, F1, n1⟩
    simp only [List.map_cons, List.map_nil, List.cons.injEq, and_true, RH, Nat.reduceAdd, Nat.reduceEqDiff, reduceIte, envOf0, envOf1, envOf2, envOf3, envOf4, envOf5] at hK
    obtain ⟨K0_1, K0_5, K0_10⟩ := hK
    try simp only [RH] at hN
    have hik : i < k.length := by omega
    repeat (first
      | refine R_seq ?_ | refine R_region ?_ | refine R_nil ?_ | refine Q_seq ?_ | refine Q_norm ?_ | refine Q_seqr ?_ | refine Q_seqx ?_ | refine Q_bl ?_ | refine Q_blr ?_ | refine Q_blx ?_ | refine Q_blo rfl ?_ | refine R_block ?_ | refine R_skip ?_ | refine R_exit ?_ | refine R_ret ?_ | refine I_true ?_ | refine I_false ?_ | refine N_exit ?_ | refine N_ret ?_
      | (refine R_draw (by kernel_rfl) ?_)
      | ((first | apply R_op | apply R_op0)
         · (first | (simp (maxDischargeDepth := 9) only [RA, Nat.reduceEqDiff, Nat.reduceLT, Nat.reduceLeDiff, Nat.reduceAdd, Nat.reduceSub, Nat.reduceMul, Nat.reduceDiv, Nat.reduceMod, Nat.reducePow, Nat.reduceBEq, Nat.reduceGT, reduceIte, j11, hi, hik, T1, T3, T5, T33, T38, T120, T122, T134, K0_1, K0_5, K0_10] <;> rfl) | ((repeat (first | (simp (maxDischargeDepth := 9) only [RA, Nat.reduceEqDiff, Nat.reduceLT, Nat.reduceLeDiff, Nat.reduceAdd, Nat.reduceSub, Nat.reduceMul, Nat.reduceDiv, Nat.reduceMod, Nat.reducePow, Nat.reduceBEq, Nat.reduceGT, reduceIte, j11, hi, hik, T1, T3, T5, T33, T38, T120, T122, T134, K0_1, K0_5, K0_10]; done) | simp (maxDischargeDepth := 9) only [RA, Nat.reduceEqDiff, Nat.reduceLT, Nat.reduceLeDiff, Nat.reduceAdd, Nat.reduceSub, Nat.reduceMul, Nat.reduceDiv, Nat.reduceMod, Nat.reducePow, Nat.reduceBEq, Nat.reduceGT, reduceIte, j11, hi, hik, T1, T3, T5, T33, T38, T120, T122, T134, K0_1, K0_5, K0_10] | simp (disch := first | assumption | omega) only [RV, j11, hi, hik, T1, T3, T5, T33, T38, T120, T122, T134, K0_1, K0_5, K0_10])) <;> rfl)))
      | (apply R_cond
         · (simp only [RE, Nat.reduceEqDiff, Nat.reduceLT, Nat.reduceLeDiff, Nat.reduceBEq, reduceIte, j11, hi, hik, T1, T3, T5, T33, T38, T120, T122, T134, K0_1, K0_5, K0_10] <;> rfl))
      | (apply R_grd
         · (simp only [yieldedA, RY, Nat.reduceEqDiff, reduceIte, j11, hi, hik, T1, T3, T5, T33, T38, T120, T122, T134, K0_1, K0_5, K0_10] <;> rfl)))
    refine O_heap fun H hH => ?_
    have hr1 := own1.rows
    have oH : H.obj (h.nx + 1) = some (.row .rw 1 [v1]) := by
      rw [hH, obj_new, if_neg (by simp only [RH]; omega), obj_new, if_neg (by omega)]; exact o1
    have oR : H.obj (h1.nx + 1) = some (.row .rw 1 [.slice (some ⟨h1.nx, 0, none⟩) 1 1]) := by rw [hH]; simp [RH]
    have oB : H.obj h1.nx = some (.row .rw 1 (b8 [k.getD i 0#8 ^^^ x])) := by rw [hH]; simp [RH]; rfl
    have nH : H.nx = h1.nx + 2 := by rw [hH]; simp [RH]
    have ownH : OwB (h.nx + 2) H v1 (turnB (k.take i) x) := by rw [hH]; exact own1.new.new
    have FH : Fr h.nx h H := by rw [hH]; (repeat (first | assumption | exact Fr.refl _ _ | refine Fr.new ?_ ?_ _ _ _ | refine Fr.put ?_ ?_ _ | omega | (simp only [RH]; omega)))
    clear hH
    have hc1 : catN (fun _ => [k.getD i 0#8 ^^^ x]) 1 = [k.getD i 0#8 ^^^ x] := by unfold catN; unfold catN; rfl
    have htl : (turnB (k.take i) x).length = i := by rw [turnB_length, List.length_take]; omega
    have hput := put109 q (h.nx + 2) (h.nx + 1) (h1.nx + 1) 1 H v1 (turnB (k.take i) x) [.slice (some ⟨h1.nx, 0, none⟩) 1 1] (fun _ => [k.getD i 0#8 ^^^ x]) oH (by omega) ownH (fun hr => by have := (hr1 _ hr).1; omega) (by omega) oR (by omega) (by omega) (fun hr => by have := (hr1 _ hr).2; omega) rfl
      (fun j hj => by
        have hj0 : j = 0 := by omega
        subst hj0
        refine ⟨_, rfl, by_row (k := .rw) (by omega) oB (Nat.le_refl _) rfl, ?_⟩
        intro z hz
        simp [rowsOfV] at hz
        subst hz
        exact ⟨by omega, fun hr => by have := (hr1 _ hr).2; omega⟩) (by rw [hc1, htl]; simp; omega) (by decide)
    rw [hc1, turnB_succ hik] at hput
    refine R_fn ?_ hput ?_
    · rfl
    intro v2 h2 ⟨v3, o3, own3, hp3, n3, x3, y3⟩
    repeat (first
      | refine R_seq ?_ | refine R_region ?_ | refine R_nil ?_ | refine Q_seq ?_ | refine Q_norm ?_ | refine Q_seqr ?_ | refine Q_seqx ?_ | refine Q_bl ?_ | refine Q_blr ?_ | refine Q_blx ?_ | refine Q_blo rfl ?_ | refine R_block ?_ | refine R_skip ?_ | refine R_exit ?_ | refine R_ret ?_ | refine I_true ?_ | refine I_false ?_ | refine N_exit ?_ | refine N_ret ?_
      | (refine R_draw (by kernel_rfl) ?_)
      | ((first | apply R_op | apply R_op0)
         · (first | (simp (maxDischargeDepth := 9) only [RA, Nat.reduceEqDiff, Nat.reduceLT, Nat.reduceLeDiff, Nat.reduceAdd, Nat.reduceSub, Nat.reduceMul, Nat.reduceDiv, Nat.reduceMod, Nat.reducePow, Nat.reduceBEq, Nat.reduceGT, reduceIte, j11, T1, T3, T5, T33, T38, T120, T122, T134, K0_1, K0_5, K0_10] <;> rfl) | ((repeat (first | (simp (maxDischargeDepth := 9) only [RA, Nat.reduceEqDiff, Nat.reduceLT, Nat.reduceLeDiff, Nat.reduceAdd, Nat.reduceSub, Nat.reduceMul, Nat.reduceDiv, Nat.reduceMod, Nat.reducePow, Nat.reduceBEq, Nat.reduceGT, reduceIte, j11, T1, T3, T5, T33, T38, T120, T122, T134, K0_1, K0_5, K0_10]; done) | simp (maxDischargeDepth := 9) only [RA, Nat.reduceEqDiff, Nat.reduceLT, Nat.reduceLeDiff, Nat.reduceAdd, Nat.reduceSub, Nat.reduceMul, Nat.reduceDiv, Nat.reduceMod, Nat.reducePow, Nat.reduceBEq, Nat.reduceGT, reduceIte, j11, T1, T3, T5, T33, T38, T120, T122, T134, K0_1, K0_5, K0_10] | simp (disch := first | assumption | omega) only [RV, j11, T1, T3, T5, T33, T38, T120, T122, T134, K0_1, K0_5, K0_10])) <;> rfl)))
      | (apply R_cond
         · (simp only [RE, Nat.reduceEqDiff, Nat.reduceLT, Nat.reduceLeDiff, Nat.reduceBEq, reduceIte, j11, T1, T3, T5, T33, T38, T120, T122, T134, K0_1, K0_5, K0_10] <;> rfl))
      | (apply R_grd
         · (simp only [yieldedA, RY, Nat.reduceEqDiff, reduceIte, j11, T1, T3, T5, T33, T38, T120, T122, T134, K0_1, K0_5, K0_10] <;> rfl)))
    refine ⟨rfl, by first | rfl | first | rfl | (first | rw [ev_tmp] | rw [ev_const] | skip) <;> simp only [upd_apply, Nat.reduceEqDiff, if_true, if_false, reduceIte, lit_iv, lit_w8, K0_1, K0_5, K0_10], rfl, by omega, by (try simp only [List.map_cons, List.map_nil, RH, Nat.reduceAdd, Nat.reduceEqDiff, reduceIte, ev_tmp, ev_const, lit_iv, lit_w8, lit_w32, lit_w64, envOf0, envOf1, envOf2, envOf3, envOf4, envOf5, T1, T3, T5, T33, T38, T120, T122, T134, K0_1, K0_5, K0_10]), v3, o3, own3, FH.trans ⟨n3, fun z hz => x3 z (by omega) (by omega) (fun hr => by have := (hr1 _ hr).1; omega)⟩, by omega⟩
  · intro e1 h1 hK hO hN ⟨j11, v1, o1, own1, F1, n1⟩
    simp only [List.map_cons, List.map_nil, List.cons.injEq, and_true, RH, Nat.reduceAdd, Nat.reduceEqDiff, reduceIte, envOf0, envOf1, envOf2, envOf3, envOf4, envOf5] at hK
    obtain ⟨K0_1, K0_5, K0_10⟩ := hK
    try simp only [RH] at hN
    repeat (first
      | refine R_seq ?_ | refine R_region ?_ | refine R_nil ?_ | refine Q_seq ?_ | refine Q_norm ?_ | refine Q_seqr ?_ | refine Q_seqx ?_ | refine Q_bl ?_ | refine Q_blr ?_ | refine Q_blx ?_ | refine Q_blo rfl ?_ | refine R_block ?_ | refine R_skip ?_ | refine R_exit ?_ | refine R_ret ?_ | refine I_true ?_ | refine I_false ?_ | refine N_exit ?_ | refine N_ret ?_
      | (refine R_draw (by kernel_rfl) ?_)
      | ((first | apply R_op | apply R_op0)
         · (first | (simp (maxDischargeDepth := 9) only [RA, Nat.reduceEqDiff, Nat.reduceLT, Nat.reduceLeDiff, Nat.reduceAdd, Nat.reduceSub, Nat.reduceMul, Nat.reduceDiv, Nat.reduceMod, Nat.reducePow, Nat.reduceBEq, Nat.reduceGT, reduceIte, j11, T1, T3, T5, T33, T38, T120, T122, T134, K0_1, K0_5, K0_10] <;> rfl) | ((repeat (first | (simp (maxDischargeDepth := 9) only [RA, Nat.reduceEqDiff, Nat.reduceLT, Nat.reduceLeDiff, Nat.reduceAdd, Nat.reduceSub, Nat.reduceMul, Nat.reduceDiv, Nat.reduceMod, Nat.reducePow, Nat.reduceBEq, Nat.reduceGT, reduceIte, j11, T1, T3, T5, T33, T38, T120, T122, T134, K0_1, K0_5, K0_10]; done) | simp (maxDischargeDepth := 9) only [RA, Nat.reduceEqDiff, Nat.reduceLT, Nat.reduceLeDiff, Nat.reduceAdd, Nat.reduceSub, Nat.reduceMul, Nat.reduceDiv, Nat.reduceMod, Nat.reducePow, Nat.reduceBEq, Nat.reduceGT, reduceIte, j11, T1, T3, T5, T33, T38, T120, T122, T134, K0_1, K0_5, K0_10] | simp (disch := first | assumption | omega) only [RV, j11, T1, T3, T5, T33, T38, T120, T122, T134, K0_1, K0_5, K0_10])) <;> rfl)))
      | (apply R_cond
         · (simp only [RE, Nat.reduceEqDiff, Nat.reduceLT, Nat.reduceLeDiff, Nat.reduceBEq, reduceIte, j11, T1, T3, T5, T33, T38, T120, T122, T134, K0_1, K0_5, K0_10] <;> rfl))
      | (apply R_grd
         · (simp only [yieldedA, RY, Nat.reduceEqDiff, reduceIte, j11, T1, T3, T5, T33, T38, T120, T122, T134, K0_1, K0_5, K0_10] <;> rfl)))
    refine ⟨.inr rfl, _, rfl, h.nx + 1, v1, ?_, by omega, by omega, o1, ?_, fun hr => by have := (own1.rows _ hr).1; omega, F1⟩
    · (try simp only [List.map_cons, List.map_nil, RH, Nat.reduceAdd, Nat.reduceEqDiff, reduceIte, ev_tmp, ev_const, lit_iv, lit_w8, lit_w32, lit_w64, envOf0, envOf1, envOf2, envOf3, envOf4, envOf5, packR, T1, T3, T5, T33, T38, T120, T122, T134, K0_1, K0_5, K0_10])
    · rw [show k.take 64 = k from List.take_of_length_le (by omega)] at own1
      exact own1.le (by omega)
theorem inl108 : inlOf Try.prog 108 = true := by kernel_rfl
theorem iso108 : isoOf Try.prog 108 = false := by kernel_rfl
set_option maxRecDepth 20000 in
set_option maxHeartbeats 8000000 in
theorem sum108 (q p : Nat) (h : Heap) (v : Value) (xs : List (BitVec 8)) (hp : h.obj p = some (.row .rw 1 [v])) (hpl : p < h.nx) (hb : By h v xs) (hl : xs.length ≤ 2147483648) :
    ∃ v' h', fcall Try.prog (q + 8) (.func (.func 108) #[] #[]) [.pointer (some ⟨p, 0, none⟩)] h = some (.ok v', h') ∧ v' = .agg ⟨b8 (sumS xs)⟩ ∧ Fr h.nx h h' := by
  rw [fcall_inl inl108 iso108, evF_eq Try.func108 rfl]
  apply evEnd_of_W
  simp only [Try.f108]
  have a1 : (p = h.nx) = False := eq_false (by omega)
  repeat (first
    | refine R_seq ?_ | refine R_region ?_ | refine R_nil ?_ | refine Q_seq ?_ | refine Q_norm ?_ | refine Q_seqr ?_ | refine Q_seqx ?_ | refine Q_bl ?_ | refine Q_blr ?_ | refine Q_blx ?_ | refine Q_blo rfl ?_ | refine R_block ?_ | refine R_skip ?_ | refine R_exit ?_ | refine R_ret ?_ | refine I_true ?_ | refine I_false ?_ | refine N_exit ?_ | refine N_ret ?_
    | (refine R_draw (by kernel_rfl) ?_)
    | ((first | apply R_op | apply R_op0)
       · (first | (simp (maxDischargeDepth := 9) only [RA, Nat.reduceEqDiff, Nat.reduceLT, Nat.reduceLeDiff, Nat.reduceAdd, Nat.reduceSub, Nat.reduceMul, Nat.reduceDiv, Nat.reduceMod, Nat.reducePow, Nat.reduceBEq, Nat.reduceGT, reduceIte, hp, a1, T30, T38, T120, T122] <;> rfl) | ((repeat (first | (simp (maxDischargeDepth := 9) only [RA, Nat.reduceEqDiff, Nat.reduceLT, Nat.reduceLeDiff, Nat.reduceAdd, Nat.reduceSub, Nat.reduceMul, Nat.reduceDiv, Nat.reduceMod, Nat.reducePow, Nat.reduceBEq, Nat.reduceGT, reduceIte, hp, a1, T30, T38, T120, T122]; done) | simp (maxDischargeDepth := 9) only [RA, Nat.reduceEqDiff, Nat.reduceLT, Nat.reduceLeDiff, Nat.reduceAdd, Nat.reduceSub, Nat.reduceMul, Nat.reduceDiv, Nat.reduceMod, Nat.reducePow, Nat.reduceBEq, Nat.reduceGT, reduceIte, hp, a1, T30, T38, T120, T122] | simp (disch := first | assumption | omega) only [RV, hp, a1, T30, T38, T120, T122])) <;> rfl)))
    | (apply R_cond
       · (simp only [RE, Nat.reduceEqDiff, Nat.reduceLT, Nat.reduceLeDiff, Nat.reduceBEq, reduceIte, hp, a1, T30, T38, T120, T122] <;> rfl))
    | (apply R_grd
       · (simp only [yieldedA, RY, Nat.reduceEqDiff, reduceIte, hp, a1, T30, T38, T120, T122] <;> rfl)))
  refine R_fn ?_ (sum52 q _ v xs (hb.fr0 (by (repeat (first | assumption | exact Fr.refl _ _ | refine Fr.new ?_ ?_ _ _ _ | refine Fr.put ?_ ?_ _ | omega | (simp only [RH]; omega))))) hl) ?_
  · rfl
  intro v1 h1 ⟨hv1, F1⟩
  subst hv1
  simp only [RH] at F1
  have o0 := F1.2 h.nx (by omega)
  simp only [RH, rep8] at o0
  have hsl : (sumS xs).length = 32 := by unfold sumS outS; simp
  have hc8 := fun (kd : Kind) (es : Nat) => cut8 (k := kd) (es := es) hsl
  have hp8 := fun (H : Heap) (p : Nat) => puts8 (h := H) (b := p) (es := 1) hsl (List.length_replicate (n := 32) (a := 0#8))
  repeat (first
    | refine R_seq ?_ | refine R_region ?_ | refine R_nil ?_ | refine Q_seq ?_ | refine Q_norm ?_ | refine Q_seqr ?_ | refine Q_seqx ?_ | refine Q_bl ?_ | refine Q_blr ?_ | refine Q_blx ?_ | refine Q_blo rfl ?_ | refine R_block ?_ | refine R_skip ?_ | refine R_exit ?_ | refine R_ret ?_ | refine I_true ?_ | refine I_false ?_ | refine N_exit ?_ | refine N_ret ?_
    | ((first | apply R_op | apply R_op0)
       · (first | (simp (maxDischargeDepth := 9) only [RA, Nat.reduceEqDiff, Nat.reduceLT, Nat.reduceLeDiff, Nat.reduceAdd, Nat.reduceSub, Nat.reduceMul, Nat.reduceDiv, Nat.reduceMod, Nat.reducePow, Nat.reduceBEq, Nat.reduceGT, reduceIte, o0, hp8, T30, T38, T120, T122] <;> rfl) | ((repeat (first | (simp (maxDischargeDepth := 9) only [RA, Nat.reduceEqDiff, Nat.reduceLT, Nat.reduceLeDiff, Nat.reduceAdd, Nat.reduceSub, Nat.reduceMul, Nat.reduceDiv, Nat.reduceMod, Nat.reducePow, Nat.reduceBEq, Nat.reduceGT, reduceIte, o0, hp8, T30, T38, T120, T122]; done) | simp (maxDischargeDepth := 9) only [RA, Nat.reduceEqDiff, Nat.reduceLT, Nat.reduceLeDiff, Nat.reduceAdd, Nat.reduceSub, Nat.reduceMul, Nat.reduceDiv, Nat.reduceMod, Nat.reducePow, Nat.reduceBEq, Nat.reduceGT, reduceIte, o0, hp8, T30, T38, T120, T122] | simp (disch := first | assumption | omega) only [RV, o0, hp8, T30, T38, T120, T122])) <;> rfl)))
    | (apply R_cond
       · (simp only [RE, Nat.reduceEqDiff, Nat.reduceLT, Nat.reduceLeDiff, Nat.reduceBEq, reduceIte, o0, hp8, T30, T38, T120, T122] <;> rfl))
    | (apply R_grd
       · (simp only [yieldedA, RY, Nat.reduceEqDiff, reduceIte, o0, hp8, T30, T38, T120, T122] <;> rfl)))
  first | refine ⟨.inr rfl, ?_⟩ | refine ⟨.inl rfl, ?_⟩
  simp only [evResultList, evResult, ld30, RH, upd_apply, Nat.reduceEqDiff, reduceIte, hc8, Option.map_some]
  refine ⟨_, rfl, rfl, Fr.put ?_ (Nat.le_refl _) _⟩
  exact (Fr.new (.refl _ _) (Nat.le_refl _) _ _ _).trans (F1.le (by omega))
end Go.Proofs.Ytfehhihllenjiaa
