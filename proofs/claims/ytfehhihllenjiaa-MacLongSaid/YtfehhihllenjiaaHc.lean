/- The digest: a block's words. -/
import Derived.Test.YtfehhihllenjiaaHb
set_option linter.all false
namespace Go.Proofs.Ytfehhihllenjiaa
open Go.Proofs
def wpad (b : List (BitVec 8)) (i : Nat) : List (BitVec 32) := wl b i ++ List.replicate (64 - i) 0#32
theorem wpad_length (b : List (BitVec 8)) {i : Nat} (hi : i ≤ 64) : (wpad b i).length = 64 := by
  unfold wpad; rw [List.length_append, wl_length, List.length_replicate]; omega
theorem wpad_get (b : List (BitVec 8)) {i j : Nat} (hj : j < i) : (wpad b i).getD j 0#32 = (wl b i).getD j 0#32 := by
  unfold wpad
  simp only [List.getD_eq_getElem?_getD]
  rw [List.getElem?_append_left (by rw [wl_length]; exact hj)]
theorem wpad_end (b : List (BitVec 8)) {i : Nat} (hi : i < 64) : (wpad b i).getD i 0#32 = 0#32 := by
  unfold wpad
  simp only [List.getD_eq_getElem?_getD]
  rw [List.getElem?_append_right (by rw [wl_length]; exact Nat.le_refl _), wl_length, Nat.sub_self, List.getElem?_replicate]
  split <;> rfl
theorem wpad_set (b : List (BitVec 8)) {i : Nat} (hi : i < 64) : (wpad b i).set i (if i < 16 then wAt b i else wNext (wl b i) i) = wpad b (i + 1) := by
  unfold wpad
  rw [List.set_append_right _ _ (by rw [wl_length]; exact Nat.le_refl _), wl_length, Nat.sub_self]
  have : 64 - i = (64 - (i + 1)) + 1 := by omega
  rw [this, List.replicate_succ, List.set_cons_zero]
  show _ = (wl b i ++ [_]) ++ _
  rw [List.append_assoc]; rfl
def accW (b : List (BitVec 8)) (i : Nat) : Nat → BitVec 32
  | 0 => 0#32
  | j + 1 => accW b i j <<< 8 ||| (b.getD (4 * i + j) 0#8).setWidth 32
theorem accW4 (b : List (BitVec 8)) (i : Nat) : accW b i 4 = wAt b i := by
  unfold wAt
  rw [← be4_eq]
  rfl
theorem set_self {xs : List (BitVec 32)} {i : Nat} (hi : i < xs.length) {x : BitVec 32} (h : xs.getD i 0#32 = x) : xs.set i x = xs := by
  apply List.ext_getElem?
  intro j
  rw [List.getElem?_set]
  split
  · rename_i e; subst e
    simp only [List.getD_eq_getElem?_getD, List.getElem?_eq_getElem hi, Option.getD_some] at h
    rw [List.getElem?_eq_getElem hi, h]
  · rfl
theorem getD_set {xs : List (BitVec 32)} {i : Nat} (hi : i < xs.length) {x : BitVec 32} : (xs.set i x).getD i 0#32 = x := by
  simp [List.getD_eq_getElem?_getD, hi]
theorem getD_drop8h {xs : List (BitVec 8)} {i m : Nat} : (xs.drop m).getD i 0#8 = xs.getD (m + i) 0#8 := by
  simp [List.getD_eq_getElem?_getD, List.getElem?_drop]
theorem getD_take8h {xs : List (BitVec 8)} {i m : Nat} (hi : i < m) : (xs.take m).getD i 0#8 = xs.getD i 0#8 := by
  simp [List.getD_eq_getElem?_getD, List.getElem?_take, hi]
attribute [local irreducible] evOps iter evD evF evC evLoad evStore evAlloc evIndexAddr evIndex evLenB evBox evBin evUn evConvert evExtract evSlice evAppend evCopy evNil evBuild evMakeSlice evBuildSlice evBuiltin Program.underlying
attribute [local irreducible] kl wl rnds wpad accW
theorem inl94 : inlOf Try.prog 94 = true := by kernel_rfl
theorem iso94 : isoOf Try.prog 94 = false := by kernel_rfl
set_option maxRecDepth 20000 in
set_option maxHeartbeats 8000000 in
theorem words94 (q : Nat) (h : Heap) (v : Value) (b : List (BitVec 8)) (hb : By h v b) (hl : b.length = 64) :
    ∃ v' h', fcall Try.prog (q + 3) (.func (.func 94) #[] #[]) [v] h = some (.ok v', h') ∧ v' = .agg ⟨b32 (wl b 64)⟩ ∧ Fr h.nx h h' := by
  rw [fcall_inl inl94 iso94, evF_eq Try.func94 rfl]
  apply evEnd_of_W
  simp only [Try.f94]
  repeat (first
    | refine R_seq ?_ | refine R_region ?_ | refine R_nil ?_ | refine Q_seq ?_ | refine Q_norm ?_ | refine Q_seqr ?_ | refine Q_seqx ?_ | refine Q_bl ?_ | refine Q_blr ?_ | refine Q_blx ?_ | refine Q_blo rfl ?_ | refine R_block ?_ | refine R_skip ?_ | refine R_exit ?_ | refine R_ret ?_ | refine I_true ?_ | refine I_false ?_ | refine N_exit ?_ | refine N_ret ?_
    | (refine R_draw (by kernel_rfl) ?_)
    | ((first | apply R_op | apply R_op0)
       · (first | (simp (maxDischargeDepth := 9) only [RA, Nat.reduceEqDiff, Nat.reduceLT, Nat.reduceLeDiff, Nat.reduceAdd, Nat.reduceSub, Nat.reduceMul, Nat.reduceDiv, Nat.reduceMod, Nat.reducePow, Nat.reduceBEq, Nat.reduceGT, reduceIte, T3, T5, T22, T38, T94, T95, cv8_32 Try.underlying5 Try.underlying22] <;> rfl) | ((repeat (first | (simp (maxDischargeDepth := 9) only [RA, Nat.reduceEqDiff, Nat.reduceLT, Nat.reduceLeDiff, Nat.reduceAdd, Nat.reduceSub, Nat.reduceMul, Nat.reduceDiv, Nat.reduceMod, Nat.reducePow, Nat.reduceBEq, Nat.reduceGT, reduceIte, T3, T5, T22, T38, T94, T95, cv8_32 Try.underlying5 Try.underlying22]; done) | simp (maxDischargeDepth := 9) only [RA, Nat.reduceEqDiff, Nat.reduceLT, Nat.reduceLeDiff, Nat.reduceAdd, Nat.reduceSub, Nat.reduceMul, Nat.reduceDiv, Nat.reduceMod, Nat.reducePow, Nat.reduceBEq, Nat.reduceGT, reduceIte, T3, T5, T22, T38, T94, T95, cv8_32 Try.underlying5 Try.underlying22] | simp (disch := first | assumption | omega) only [RV, T3, T5, T22, T38, T94, T95, cv8_32 Try.underlying5 Try.underlying22])) <;> rfl)))
    | (apply R_cond
       · (simp only [RE, Nat.reduceEqDiff, Nat.reduceLT, Nat.reduceLeDiff, Nat.reduceBEq, reduceIte, T3, T5, T22, T38, T94, T95, cv8_32 Try.underlying5 Try.underlying22] <;> rfl))
    | (apply R_grd
       · (simp only [yieldedA, RY, Nat.reduceEqDiff, reduceIte, T3, T5, T22, T38, T94, T95, cv8_32 Try.underlying5 Try.underlying22] <;> rfl)))
  refine W_loopK [0, 2, 3] [h.nx] (fun i e1 h1 => e1 10 = iv i ∧ h1.obj (h.nx + 1) = some (.row .rw 1 (b32 (wpad b i))) ∧ Fr h.nx h h1) 16 (by decide) ?_ ?_ ?_
  · refine ⟨by (try simp only [List.map_cons, List.map_nil, RH, Nat.reduceAdd, Nat.reduceEqDiff, reduceIte, ev_tmp, ev_const, lit_iv, lit_w8, lit_w32, lit_w64, envOf0, envOf1, envOf2, envOf3, envOf4, envOf5, T3, T5, T22, T38, T94, T95, cv8_32 Try.underlying5 Try.underlying22]), ?_, by (repeat (first | assumption | exact Fr.refl _ _ | refine Fr.new ?_ ?_ _ _ _ | refine Fr.put ?_ ?_ _ | omega | (simp only [RH]; omega)))⟩
    (try simp only [List.map_cons, List.map_nil, RH, Nat.reduceAdd, Nat.reduceEqDiff, reduceIte, ev_tmp, ev_const, lit_iv, lit_w8, lit_w32, lit_w64, envOf0, envOf1, envOf2, envOf3, envOf4, envOf5, rep32, T3, T5, T22, T38, T94, T95, cv8_32 Try.underlying5 Try.underlying22])
    unfold wpad wl; rfl
  · intro i hi e1 h1 hK hO hN ⟨j10, o1, F1⟩
    simp only [List.map_cons, List.map_nil, List.cons.injEq, and_true, RH, Nat.reduceAdd, Nat.reduceEqDiff, reduceIte, envOf0, envOf1, envOf2, envOf3, envOf4, envOf5, rep32] at hK
    obtain ⟨K0_0, K0_2, K0_3⟩ := hK
    simp only [List.map_cons, List.map_nil, List.cons.injEq, and_true, RH, Nat.reduceAdd, Nat.reduceEqDiff, reduceIte, envOf0, envOf1, envOf2, envOf3, envOf4, envOf5, rep32] at hO
    have O0_0 := hO
    try simp only [RH] at hN
    have hsub : By h (subS 1 (4 * i) (4 * i + 4) (some (4 * i + 4)) v) ((b.drop (4 * i)).take 4) := by
      have := hb.sub (l := 4 * i) (hh := 4 * i + 4) (mx := some (4 * i + 4)) (by omega) (by omega) (fun m hm => by cases hm; omega)
      rwa [show 4 * i + 4 - 4 * i = 4 by omega] at this
    have hsl : ((b.drop (4 * i)).take 4).length = 4 := by rw [List.length_take, List.length_drop]; omega
    have hs1 := S38lhm (l := 4 * i) (hh := 4 * i + 4) (mm := 4 * i + 4) hb F1 (by omega) (by omega) (by omega) (by omega)
    have hlen := S38len hsub
    rw [hsl] at hlen
    repeat (first
      | refine R_seq ?_ | refine R_region ?_ | refine R_nil ?_ | refine Q_seq ?_ | refine Q_norm ?_ | refine Q_seqr ?_ | refine Q_seqx ?_ | refine Q_bl ?_ | refine Q_blr ?_ | refine Q_blx ?_ | refine Q_blo rfl ?_ | refine R_block ?_ | refine R_skip ?_ | refine R_exit ?_ | refine R_ret ?_ | refine I_true ?_ | refine I_false ?_ | refine N_exit ?_ | refine N_ret ?_
      | (refine R_draw (by kernel_rfl) ?_)
      | ((first | apply R_op | apply R_op0)
         · (first | (simp (maxDischargeDepth := 9) only [RA, Nat.reduceEqDiff, Nat.reduceLT, Nat.reduceLeDiff, Nat.reduceAdd, Nat.reduceSub, Nat.reduceMul, Nat.reduceDiv, Nat.reduceMod, Nat.reducePow, Nat.reduceBEq, Nat.reduceGT, reduceIte, j10, hi, hs1, hlen, T3, T5, T22, T38, T94, T95, cv8_32 Try.underlying5 Try.underlying22, K0_0, K0_2, K0_3, O0_0] <;> rfl) | ((repeat (first | (simp (maxDischargeDepth := 9) only [RA, Nat.reduceEqDiff, Nat.reduceLT, Nat.reduceLeDiff, Nat.reduceAdd, Nat.reduceSub, Nat.reduceMul, Nat.reduceDiv, Nat.reduceMod, Nat.reducePow, Nat.reduceBEq, Nat.reduceGT, reduceIte, j10, hi, hs1, hlen, T3, T5, T22, T38, T94, T95, cv8_32 Try.underlying5 Try.underlying22, K0_0, K0_2, K0_3, O0_0]; done) | simp (maxDischargeDepth := 9) only [RA, Nat.reduceEqDiff, Nat.reduceLT, Nat.reduceLeDiff, Nat.reduceAdd, Nat.reduceSub, Nat.reduceMul, Nat.reduceDiv, Nat.reduceMod, Nat.reducePow, Nat.reduceBEq, Nat.reduceGT, reduceIte, j10, hi, hs1, hlen, T3, T5, T22, T38, T94, T95, cv8_32 Try.underlying5 Try.underlying22, K0_0, K0_2, K0_3, O0_0] | simp (disch := first | assumption | omega) only [RV, j10, hi, hs1, hlen, T3, T5, T22, T38, T94, T95, cv8_32 Try.underlying5 Try.underlying22, K0_0, K0_2, K0_3, O0_0])) <;> rfl)))
      | (apply R_cond
         · (simp only [RE, Nat.reduceEqDiff, Nat.reduceLT, Nat.reduceLeDiff, Nat.reduceBEq, reduceIte, j10, hi, hs1, hlen, T3, T5, T22, T38, T94, T95, cv8_32 Try.underlying5 Try.underlying22, K0_0, K0_2, K0_3, O0_0] <;> rfl))
      | (apply R_grd
         · (simp only [yieldedA, RY, Nat.reduceEqDiff, reduceIte, j10, hi, hs1, hlen, T3, T5, T22, T38, T94, T95, cv8_32 Try.underlying5 Try.underlying22, K0_0, K0_2, K0_3, O0_0] <;> rfl)))
    refine W_loopK [0, 2, 3, 4, 10, 22, 23] [h.nx] (fun j e2 h2 => e2 24 = iv j ∧ h2.obj (h.nx + 1) = some (.row .rw 1 (b32 ((wpad b i).set i (accW b i j)))) ∧ Fr h.nx h h2) 4 (by decide) ?_ ?_ ?_
    · refine ⟨by (try simp only [List.map_cons, List.map_nil, RH, Nat.reduceAdd, Nat.reduceEqDiff, reduceIte, ev_tmp, ev_const, lit_iv, lit_w8, lit_w32, lit_w64, envOf0, envOf1, envOf2, envOf3, envOf4, envOf5, T3, T5, T22, T38, T94, T95, cv8_32 Try.underlying5 Try.underlying22, K0_0, K0_2, K0_3, O0_0]), ?_, F1⟩
      rw [o1, set_self (x := accW b i 0) (by rw [wpad_length b (by omega)]; omega) (by unfold accW; exact wpad_end b (by omega))]
    · intro j hj e2 h2 hK hO hN ⟨j24, o2, F2⟩
      simp only [List.map_cons, List.map_nil, List.cons.injEq, and_true, RH, Nat.reduceAdd, Nat.reduceEqDiff, reduceIte, envOf0, envOf1, envOf2, envOf3, envOf4, envOf5, K0_0, K0_2, K0_3, O0_0] at hK
      obtain ⟨K1_0, K1_2, K1_3, K1_4, K1_10, K1_22, K1_23⟩ := hK
      simp only [List.map_cons, List.map_nil, List.cons.injEq, and_true, RH, Nat.reduceAdd, Nat.reduceEqDiff, reduceIte, envOf0, envOf1, envOf2, envOf3, envOf4, envOf5, K0_0, K0_2, K0_3, O0_0] at hO
      have O1_0 := hO
      try simp only [RH] at hN
      have hlen2 : ((wpad b i).set i (accW b i j)).length = 64 := by rw [List.length_set, wpad_length b (by omega)]
      have hi64 : i < 64 := by omega
      have hj4 : j < ((b.drop (4 * i)).take 4).length := by omega
      have hg := fun (kd : Kind) (es : Nat) => get32 (k := kd) (es := es) (show i < ((wpad b i).set i (accW b i j)).length by omega)
      have hp := fun (x : BitVec 32) => put32 (h := h2) (b := h.nx + 1) (es := 1) (x := x) (show i < ((wpad b i).set i (accW b i j)).length by omega)
      rw [getD_set (by rw [wpad_length b (by omega)]; omega)] at hg
      repeat (first
        | refine R_seq ?_ | refine R_region ?_ | refine R_nil ?_ | refine Q_seq ?_ | refine Q_norm ?_ | refine Q_seqr ?_ | refine Q_seqx ?_ | refine Q_bl ?_ | refine Q_blr ?_ | refine Q_blx ?_ | refine Q_blo rfl ?_ | refine R_block ?_ | refine R_skip ?_ | refine R_exit ?_ | refine R_ret ?_ | refine I_true ?_ | refine I_false ?_ | refine N_exit ?_ | refine N_ret ?_
        | (refine R_draw (by kernel_rfl) ?_)
        | ((first | apply R_op | apply R_op0)
           · (first | (simp (maxDischargeDepth := 9) only [RA, Nat.reduceEqDiff, Nat.reduceLT, Nat.reduceLeDiff, Nat.reduceAdd, Nat.reduceSub, Nat.reduceMul, Nat.reduceDiv, Nat.reduceMod, Nat.reducePow, Nat.reduceBEq, Nat.reduceGT, reduceIte, j24, hj, hi64, hj4, S38ia hsub, S38ld hsub F2 hj4, o2, hg, hp, List.set_set, T3, T5, T22, T38, T94, T95, cv8_32 Try.underlying5 Try.underlying22, K0_0, K0_2, K0_3, O0_0, K1_0, K1_2, K1_3, K1_4, K1_10, K1_22, K1_23, O1_0] <;> rfl) | ((repeat (first | (simp (maxDischargeDepth := 9) only [RA, Nat.reduceEqDiff, Nat.reduceLT, Nat.reduceLeDiff, Nat.reduceAdd, Nat.reduceSub, Nat.reduceMul, Nat.reduceDiv, Nat.reduceMod, Nat.reducePow, Nat.reduceBEq, Nat.reduceGT, reduceIte, j24, hj, hi64, hj4, S38ia hsub, S38ld hsub F2 hj4, o2, hg, hp, List.set_set, T3, T5, T22, T38, T94, T95, cv8_32 Try.underlying5 Try.underlying22, K0_0, K0_2, K0_3, O0_0, K1_0, K1_2, K1_3, K1_4, K1_10, K1_22, K1_23, O1_0]; done) | simp (maxDischargeDepth := 9) only [RA, Nat.reduceEqDiff, Nat.reduceLT, Nat.reduceLeDiff, Nat.reduceAdd, Nat.reduceSub, Nat.reduceMul, Nat.reduceDiv, Nat.reduceMod, Nat.reducePow, Nat.reduceBEq, Nat.reduceGT, reduceIte, j24, hj, hi64, hj4, S38ia hsub, S38ld hsub F2 hj4, o2, hg, hp, List.set_set, T3, T5, T22, T38, T94, T95, cv8_32 Try.underlying5 Try.underlying22, K0_0, K0_2, K0_3, O0_0, K1_0, K1_2, K1_3, K1_4, K1_10, K1_22, K1_23, O1_0] | simp (disch := first | assumption | omega) only [RV, j24, hj, hi64, hj4, S38ia hsub, S38ld hsub F2 hj4, o2, hg, hp, List.set_set, T3, T5, T22, T38, T94, T95, cv8_32 Try.underlying5 Try.underlying22, K0_0, K0_2, K0_3, O0_0, K1_0, K1_2, K1_3, K1_4, K1_10, K1_22, K1_23, O1_0])) <;> rfl)))
        | (apply R_cond
           · (simp only [RE, Nat.reduceEqDiff, Nat.reduceLT, Nat.reduceLeDiff, Nat.reduceBEq, reduceIte, j24, hj, hi64, hj4, S38ia hsub, S38ld hsub F2 hj4, o2, hg, hp, List.set_set, T3, T5, T22, T38, T94, T95, cv8_32 Try.underlying5 Try.underlying22, K0_0, K0_2, K0_3, O0_0, K1_0, K1_2, K1_3, K1_4, K1_10, K1_22, K1_23, O1_0] <;> rfl))
        | (apply R_grd
           · (simp only [yieldedA, RY, Nat.reduceEqDiff, reduceIte, j24, hj, hi64, hj4, S38ia hsub, S38ld hsub F2 hj4, o2, hg, hp, List.set_set, T3, T5, T22, T38, T94, T95, cv8_32 Try.underlying5 Try.underlying22, K0_0, K0_2, K0_3, O0_0, K1_0, K1_2, K1_3, K1_4, K1_10, K1_22, K1_23, O1_0] <;> rfl)))
      refine ⟨rfl, by first | rfl | simp only [List.map_cons, List.map_nil, RH, Nat.reduceAdd, Nat.reduceEqDiff, reduceIte, T3, T5, T22, T38, T94, T95, cv8_32 Try.underlying5 Try.underlying22, K0_0, K0_2, K0_3, O0_0, K1_0, K1_2, K1_3, K1_4, K1_10, K1_22, K1_23, O1_0], by first | rfl | simp only [List.map_cons, List.map_nil, RH, Nat.reduceAdd, Nat.reduceEqDiff, reduceIte, T3, T5, T22, T38, T94, T95, cv8_32 Try.underlying5 Try.underlying22, K0_0, K0_2, K0_3, O0_0, K1_0, K1_2, K1_3, K1_4, K1_10, K1_22, K1_23, O1_0], by first | (simp only [RH, T3, T5, T22, T38, T94, T95, cv8_32 Try.underlying5 Try.underlying22, K0_0, K0_2, K0_3, O0_0, K1_0, K1_2, K1_3, K1_4, K1_10, K1_22, K1_23, O1_0]; done) | ((try simp only [RH, T3, T5, T22, T38, T94, T95, cv8_32 Try.underlying5 Try.underlying22, K0_0, K0_2, K0_3, O0_0, K1_0, K1_2, K1_3, K1_4, K1_10, K1_22, K1_23, O1_0]); omega), ?_⟩
      refine ⟨by (try simp only [List.map_cons, List.map_nil, RH, Nat.reduceAdd, Nat.reduceEqDiff, reduceIte, ev_tmp, ev_const, lit_iv, lit_w8, lit_w32, lit_w64, envOf0, envOf1, envOf2, envOf3, envOf4, envOf5, T3, T5, T22, T38, T94, T95, cv8_32 Try.underlying5 Try.underlying22, K0_0, K0_2, K0_3, O0_0, K1_0, K1_2, K1_3, K1_4, K1_10, K1_22, K1_23, O1_0]), ?_, by (repeat (first | assumption | exact Fr.refl _ _ | refine Fr.new ?_ ?_ _ _ _ | refine Fr.put ?_ ?_ _ | omega | (simp only [RH]; omega)))⟩
      (try simp only [List.map_cons, List.map_nil, RH, Nat.reduceAdd, Nat.reduceEqDiff, reduceIte, ev_tmp, ev_const, lit_iv, lit_w8, lit_w32, lit_w64, envOf0, envOf1, envOf2, envOf3, envOf4, envOf5, T3, T5, T22, T38, T94, T95, cv8_32 Try.underlying5 Try.underlying22, K0_0, K0_2, K0_3, O0_0, K1_0, K1_2, K1_3, K1_4, K1_10, K1_22, K1_23, O1_0])
      have e3 : ((b.drop (4 * i)).take 4).getD j 0#8 = b.getD (4 * i + j) 0#8 := by rw [getD_take8h hj, getD_drop8h]
      rw [e3]
      conv => rhs; unfold accW
      rfl
    · intro e2 h2 hK hO hN ⟨j24, o2, F2⟩
      simp only [List.map_cons, List.map_nil, List.cons.injEq, and_true, RH, Nat.reduceAdd, Nat.reduceEqDiff, reduceIte, envOf0, envOf1, envOf2, envOf3, envOf4, envOf5, K0_0, K0_2, K0_3, O0_0] at hK
      obtain ⟨K1_0, K1_2, K1_3, K1_4, K1_10, K1_22, K1_23⟩ := hK
      simp only [List.map_cons, List.map_nil, List.cons.injEq, and_true, RH, Nat.reduceAdd, Nat.reduceEqDiff, reduceIte, envOf0, envOf1, envOf2, envOf3, envOf4, envOf5, K0_0, K0_2, K0_3, O0_0] at hO
      have O1_0 := hO
      try simp only [RH] at hN
      have e4 : (wpad b i).set i (accW b i 4) = wpad b (i + 1) := by
        rw [accW4, ← wpad_set b (show i < 64 by omega), if_pos hi]
      rw [e4] at o2
      repeat (first
        | refine R_seq ?_ | refine R_region ?_ | refine R_nil ?_ | refine Q_seq ?_ | refine Q_norm ?_ | refine Q_seqr ?_ | refine Q_seqx ?_ | refine Q_bl ?_ | refine Q_blr ?_ | refine Q_blx ?_ | refine Q_blo rfl ?_ | refine R_block ?_ | refine R_skip ?_ | refine R_exit ?_ | refine R_ret ?_ | refine I_true ?_ | refine I_false ?_ | refine N_exit ?_ | refine N_ret ?_
        | ((first | apply R_op | apply R_op0)
           · (first | (simp (maxDischargeDepth := 9) only [RA, Nat.reduceEqDiff, Nat.reduceLT, Nat.reduceLeDiff, Nat.reduceAdd, Nat.reduceSub, Nat.reduceMul, Nat.reduceDiv, Nat.reduceMod, Nat.reducePow, Nat.reduceBEq, Nat.reduceGT, reduceIte, j24, j10, T3, T5, T22, T38, T94, T95, cv8_32 Try.underlying5 Try.underlying22, K0_0, K0_2, K0_3, O0_0, K1_0, K1_2, K1_3, K1_4, K1_10, K1_22, K1_23, O1_0] <;> rfl) | ((repeat (first | (simp (maxDischargeDepth := 9) only [RA, Nat.reduceEqDiff, Nat.reduceLT, Nat.reduceLeDiff, Nat.reduceAdd, Nat.reduceSub, Nat.reduceMul, Nat.reduceDiv, Nat.reduceMod, Nat.reducePow, Nat.reduceBEq, Nat.reduceGT, reduceIte, j24, j10, T3, T5, T22, T38, T94, T95, cv8_32 Try.underlying5 Try.underlying22, K0_0, K0_2, K0_3, O0_0, K1_0, K1_2, K1_3, K1_4, K1_10, K1_22, K1_23, O1_0]; done) | simp (maxDischargeDepth := 9) only [RA, Nat.reduceEqDiff, Nat.reduceLT, Nat.reduceLeDiff, Nat.reduceAdd, Nat.reduceSub, Nat.reduceMul, Nat.reduceDiv, Nat.reduceMod, Nat.reducePow, Nat.reduceBEq, Nat.reduceGT, reduceIte, j24, j10, T3, T5, T22, T38, T94, T95, cv8_32 Try.underlying5 Try.underlying22, K0_0, K0_2, K0_3, O0_0, K1_0, K1_2, K1_3, K1_4, K1_10, K1_22, K1_23, O1_0] | simp (disch := first | assumption | omega) only [RV, j24, j10, T3, T5, T22, T38, T94, T95, cv8_32 Try.underlying5 Try.underlying22, K0_0, K0_2, K0_3, O0_0, K1_0, K1_2, K1_3, K1_4, K1_10, K1_22, K1_23, O1_0])) <;> rfl)))
        | (apply R_cond
           · (simp only [RE, Nat.reduceEqDiff, Nat.reduceLT, Nat.reduceLeDiff, Nat.reduceBEq, reduceIte, j24, j10, T3, T5, T22, T38, T94, T95, cv8_32 Try.underlying5 Try.underlying22, K0_0, K0_2, K0_3, O0_0, K1_0, K1_2, K1_3, K1_4, K1_10, K1_22, K1_23, O1_0] <;> rfl))
        | (apply R_grd
           · (simp only [yieldedA, RY, Nat.reduceEqDiff, reduceIte, j24, j10, T3, T5, T22, T38, T94, T95, cv8_32 Try.underlying5 Try.underlying22, K0_0, K0_2, K0_3, O0_0, K1_0, K1_2, K1_3, K1_4, K1_10, K1_22, K1_23, O1_0] <;> rfl)))
      refine ⟨rfl, by first | rfl | simp only [List.map_cons, List.map_nil, RH, Nat.reduceAdd, Nat.reduceEqDiff, reduceIte, T3, T5, T22, T38, T94, T95, cv8_32 Try.underlying5 Try.underlying22, K0_0, K0_2, K0_3, O0_0, K1_0, K1_2, K1_3, K1_4, K1_10, K1_22, K1_23, O1_0], by first | rfl | simp only [List.map_cons, List.map_nil, RH, Nat.reduceAdd, Nat.reduceEqDiff, reduceIte, T3, T5, T22, T38, T94, T95, cv8_32 Try.underlying5 Try.underlying22, K0_0, K0_2, K0_3, O0_0, K1_0, K1_2, K1_3, K1_4, K1_10, K1_22, K1_23, O1_0], by first | (simp only [RH, T3, T5, T22, T38, T94, T95, cv8_32 Try.underlying5 Try.underlying22, K0_0, K0_2, K0_3, O0_0, K1_0, K1_2, K1_3, K1_4, K1_10, K1_22, K1_23, O1_0]; done) | ((try simp only [RH, T3, T5, T22, T38, T94, T95, cv8_32 Try.underlying5 Try.underlying22, K0_0, K0_2, K0_3, O0_0, K1_0, K1_2, K1_3, K1_4, K1_10, K1_22, K1_23, O1_0]); omega), ?_⟩
      refine ⟨by (try simp only [List.map_cons, List.map_nil, RH, Nat.reduceAdd, Nat.reduceEqDiff, reduceIte, ev_tmp, ev_const, lit_iv, lit_w8, lit_w32, lit_w64, envOf0, envOf1, envOf2, envOf3, envOf4, envOf5, T3, T5, T22, T38, T94, T95, cv8_32 Try.underlying5 Try.underlying22, K0_0, K0_2, K0_3, O0_0, K1_0, K1_2, K1_3, K1_4, K1_10, K1_22, K1_23, O1_0]), o2, F2⟩
  · intro e1 h1 hK hO hN ⟨j10, o1, F1⟩
    simp only [List.map_cons, List.map_nil, List.cons.injEq, and_true, RH, Nat.reduceAdd, Nat.reduceEqDiff, reduceIte, envOf0, envOf1, envOf2, envOf3, envOf4, envOf5, rep32] at hK
    obtain ⟨K0_0, K0_2, K0_3⟩ := hK
    simp only [List.map_cons, List.map_nil, List.cons.injEq, and_true, RH, Nat.reduceAdd, Nat.reduceEqDiff, reduceIte, envOf0, envOf1, envOf2, envOf3, envOf4, envOf5, rep32] at hO
    have O0_0 := hO
    try simp only [RH] at hN
    repeat (first
      | refine R_seq ?_ | refine R_region ?_ | refine R_nil ?_ | refine Q_seq ?_ | refine Q_norm ?_ | refine Q_seqr ?_ | refine Q_seqx ?_ | refine Q_bl ?_ | refine Q_blr ?_ | refine Q_blx ?_ | refine Q_blo rfl ?_ | refine R_block ?_ | refine R_skip ?_ | refine R_exit ?_ | refine R_ret ?_ | refine I_true ?_ | refine I_false ?_ | refine N_exit ?_ | refine N_ret ?_
      | (refine R_draw (by kernel_rfl) ?_)
      | ((first | apply R_op | apply R_op0)
         · (first | (simp (maxDischargeDepth := 9) only [RA, Nat.reduceEqDiff, Nat.reduceLT, Nat.reduceLeDiff, Nat.reduceAdd, Nat.reduceSub, Nat.reduceMul, Nat.reduceDiv, Nat.reduceMod, Nat.reducePow, Nat.reduceBEq, Nat.reduceGT, reduceIte, j10, T3, T5, T22, T38, T94, T95, cv8_32 Try.underlying5 Try.underlying22, K0_0, K0_2, K0_3, O0_0] <;> rfl) | ((repeat (first | (simp (maxDischargeDepth := 9) only [RA, Nat.reduceEqDiff, Nat.reduceLT, Nat.reduceLeDiff, Nat.reduceAdd, Nat.reduceSub, Nat.reduceMul, Nat.reduceDiv, Nat.reduceMod, Nat.reducePow, Nat.reduceBEq, Nat.reduceGT, reduceIte, j10, T3, T5, T22, T38, T94, T95, cv8_32 Try.underlying5 Try.underlying22, K0_0, K0_2, K0_3, O0_0]; done) | simp (maxDischargeDepth := 9) only [RA, Nat.reduceEqDiff, Nat.reduceLT, Nat.reduceLeDiff, Nat.reduceAdd, Nat.reduceSub, Nat.reduceMul, Nat.reduceDiv, Nat.reduceMod, Nat.reducePow, Nat.reduceBEq, Nat.reduceGT, reduceIte, j10, T3, T5, T22, T38, T94, T95, cv8_32 Try.underlying5 Try.underlying22, K0_0, K0_2, K0_3, O0_0] | simp (disch := first | assumption | omega) only [RV, j10, T3, T5, T22, T38, T94, T95, cv8_32 Try.underlying5 Try.underlying22, K0_0, K0_2, K0_3, O0_0])) <;> rfl)))
      | (apply R_cond
         · (simp only [RE, Nat.reduceEqDiff, Nat.reduceLT, Nat.reduceLeDiff, Nat.reduceBEq, reduceIte, j10, T3, T5, T22, T38, T94, T95, cv8_32 Try.underlying5 Try.underlying22, K0_0, K0_2, K0_3, O0_0] <;> rfl))
      | (apply R_grd
         · (simp only [yieldedA, RY, Nat.reduceEqDiff, reduceIte, j10, T3, T5, T22, T38, T94, T95, cv8_32 Try.underlying5 Try.underlying22, K0_0, K0_2, K0_3, O0_0] <;> rfl)))
    refine W_loopK [2, 3] [h.nx] (fun k e2 h2 => e2 7 = iv (16 + k) ∧ h2.obj (h.nx + 1) = some (.row .rw 1 (b32 (wpad b (16 + k)))) ∧ Fr h.nx h h2) 48 (by decide) ?_ ?_ ?_
    · exact ⟨by (try simp only [List.map_cons, List.map_nil, RH, Nat.reduceAdd, Nat.reduceEqDiff, reduceIte, ev_tmp, ev_const, lit_iv, lit_w8, lit_w32, lit_w64, envOf0, envOf1, envOf2, envOf3, envOf4, envOf5, T3, T5, T22, T38, T94, T95, cv8_32 Try.underlying5 Try.underlying22, K0_0, K0_2, K0_3, O0_0]), o1, F1⟩
    · intro k hk e2 h2 hK hO hN ⟨j7, o2, F2⟩
      simp only [List.map_cons, List.map_nil, List.cons.injEq, and_true, RH, Nat.reduceAdd, Nat.reduceEqDiff, reduceIte, envOf0, envOf1, envOf2, envOf3, envOf4, envOf5, O0_0, K0_0, K0_2, K0_3, O0_0] at hK
      obtain ⟨K2_2, K2_3⟩ := hK
      simp only [List.map_cons, List.map_nil, List.cons.injEq, and_true, RH, Nat.reduceAdd, Nat.reduceEqDiff, reduceIte, envOf0, envOf1, envOf2, envOf3, envOf4, envOf5, O0_0, K0_0, K0_2, K0_3, O0_0] at hO
      have O2_0 := hO
      try simp only [RH] at hN
      have hwl := wpad_length b (show 16 + k ≤ 64 by omega)
      have hi64 : 16 + k < 64 := by omega
      repeat (first
        | refine R_seq ?_ | refine R_region ?_ | refine R_nil ?_ | refine Q_seq ?_ | refine Q_norm ?_ | refine Q_seqr ?_ | refine Q_seqx ?_ | refine Q_bl ?_ | refine Q_blr ?_ | refine Q_blx ?_ | refine Q_blo rfl ?_ | refine R_block ?_ | refine R_skip ?_ | refine R_exit ?_ | refine R_ret ?_ | refine I_true ?_ | refine I_false ?_ | refine N_exit ?_ | refine N_ret ?_
        | (refine R_draw (by kernel_rfl) ?_)
        | ((first | apply R_op | apply R_op0)
           · (first | (simp (maxDischargeDepth := 9) only [RA, Nat.reduceEqDiff, Nat.reduceLT, Nat.reduceLeDiff, Nat.reduceAdd, Nat.reduceSub, Nat.reduceMul, Nat.reduceDiv, Nat.reduceMod, Nat.reducePow, Nat.reduceBEq, Nat.reduceGT, reduceIte, j7, hi64, o2, hwl, turn95 q _ 17 (by decide) (by decide), turn95 q _ 19 (by decide) (by decide), turn95 q _ 7 (by decide) (by decide), turn95 q _ 18 (by decide) (by decide), T3, T5, T22, T38, T94, T95, cv8_32 Try.underlying5 Try.underlying22, K0_0, K0_2, K0_3, O0_0, K2_2, K2_3, O2_0] <;> rfl) | ((repeat (first | (simp (maxDischargeDepth := 9) only [RA, Nat.reduceEqDiff, Nat.reduceLT, Nat.reduceLeDiff, Nat.reduceAdd, Nat.reduceSub, Nat.reduceMul, Nat.reduceDiv, Nat.reduceMod, Nat.reducePow, Nat.reduceBEq, Nat.reduceGT, reduceIte, j7, hi64, o2, hwl, turn95 q _ 17 (by decide) (by decide), turn95 q _ 19 (by decide) (by decide), turn95 q _ 7 (by decide) (by decide), turn95 q _ 18 (by decide) (by decide), T3, T5, T22, T38, T94, T95, cv8_32 Try.underlying5 Try.underlying22, K0_0, K0_2, K0_3, O0_0, K2_2, K2_3, O2_0]; done) | simp (maxDischargeDepth := 9) only [RA, Nat.reduceEqDiff, Nat.reduceLT, Nat.reduceLeDiff, Nat.reduceAdd, Nat.reduceSub, Nat.reduceMul, Nat.reduceDiv, Nat.reduceMod, Nat.reducePow, Nat.reduceBEq, Nat.reduceGT, reduceIte, j7, hi64, o2, hwl, turn95 q _ 17 (by decide) (by decide), turn95 q _ 19 (by decide) (by decide), turn95 q _ 7 (by decide) (by decide), turn95 q _ 18 (by decide) (by decide), T3, T5, T22, T38, T94, T95, cv8_32 Try.underlying5 Try.underlying22, K0_0, K0_2, K0_3, O0_0, K2_2, K2_3, O2_0] | simp (disch := first | assumption | omega) only [RV, j7, hi64, o2, hwl, turn95 q _ 17 (by decide) (by decide), turn95 q _ 19 (by decide) (by decide), turn95 q _ 7 (by decide) (by decide), turn95 q _ 18 (by decide) (by decide), T3, T5, T22, T38, T94, T95, cv8_32 Try.underlying5 Try.underlying22, K0_0, K0_2, K0_3, O0_0, K2_2, K2_3, O2_0])) <;> rfl)))
        | (apply R_cond
           · (simp only [RE, Nat.reduceEqDiff, Nat.reduceLT, Nat.reduceLeDiff, Nat.reduceBEq, reduceIte, j7, hi64, o2, hwl, turn95 q _ 17 (by decide) (by decide), turn95 q _ 19 (by decide) (by decide), turn95 q _ 7 (by decide) (by decide), turn95 q _ 18 (by decide) (by decide), T3, T5, T22, T38, T94, T95, cv8_32 Try.underlying5 Try.underlying22, K0_0, K0_2, K0_3, O0_0, K2_2, K2_3, O2_0] <;> rfl))
        | (apply R_grd
           · (simp only [yieldedA, RY, Nat.reduceEqDiff, reduceIte, j7, hi64, o2, hwl, turn95 q _ 17 (by decide) (by decide), turn95 q _ 19 (by decide) (by decide), turn95 q _ 7 (by decide) (by decide), turn95 q _ 18 (by decide) (by decide), T3, T5, T22, T38, T94, T95, cv8_32 Try.underlying5 Try.underlying22, K0_0, K0_2, K0_3, O0_0, K2_2, K2_3, O2_0] <;> rfl)))
      refine ⟨rfl, by first | rfl | simp only [List.map_cons, List.map_nil, RH, Nat.reduceAdd, Nat.reduceEqDiff, reduceIte, T3, T5, T22, T38, T94, T95, cv8_32 Try.underlying5 Try.underlying22, K0_0, K0_2, K0_3, O0_0, K2_2, K2_3, O2_0], by first | rfl | simp only [List.map_cons, List.map_nil, RH, Nat.reduceAdd, Nat.reduceEqDiff, reduceIte, T3, T5, T22, T38, T94, T95, cv8_32 Try.underlying5 Try.underlying22, K0_0, K0_2, K0_3, O0_0, K2_2, K2_3, O2_0], by first | (simp only [RH, T3, T5, T22, T38, T94, T95, cv8_32 Try.underlying5 Try.underlying22, K0_0, K0_2, K0_3, O0_0, K2_2, K2_3, O2_0]; done) | ((try simp only [RH, T3, T5, T22, T38, T94, T95, cv8_32 Try.underlying5 Try.underlying22, K0_0, K0_2, K0_3, O0_0, K2_2, K2_3, O2_0]); omega), ?_⟩
      refine ⟨by (try simp only [List.map_cons, List.map_nil, RH, Nat.reduceAdd, Nat.reduceEqDiff, reduceIte, ev_tmp, ev_const, lit_iv, lit_w8, lit_w32, lit_w64, envOf0, envOf1, envOf2, envOf3, envOf4, envOf5, Nat.add_assoc, T3, T5, T22, T38, T94, T95, cv8_32 Try.underlying5 Try.underlying22, K0_0, K0_2, K0_3, O0_0, K2_2, K2_3, O2_0]), ?_, by (repeat (first | assumption | exact Fr.refl _ _ | refine Fr.new ?_ ?_ _ _ _ | refine Fr.put ?_ ?_ _ | omega | (simp only [RH]; omega)))⟩
      (try simp only [List.map_cons, List.map_nil, RH, Nat.reduceAdd, Nat.reduceEqDiff, reduceIte, ev_tmp, ev_const, lit_iv, lit_w8, lit_w32, lit_w64, envOf0, envOf1, envOf2, envOf3, envOf4, envOf5, T3, T5, T22, T38, T94, T95, cv8_32 Try.underlying5 Try.underlying22, K0_0, K0_2, K0_3, O0_0, K2_2, K2_3, O2_0])
      rw [← Nat.add_assoc, ← wpad_set b hi64, if_neg (by omega)]
      rw [wpad_get b (by omega), wpad_get b (by omega), wpad_get b (by omega), wpad_get b (by omega)]
      rfl
    · intro e2 h2 hK hO hN ⟨j7, o2, F2⟩
      simp only [List.map_cons, List.map_nil, List.cons.injEq, and_true, RH, Nat.reduceAdd, Nat.reduceEqDiff, reduceIte, envOf0, envOf1, envOf2, envOf3, envOf4, envOf5, O0_0, K0_0, K0_2, K0_3, O0_0] at hK
      obtain ⟨K2_2, K2_3⟩ := hK
      simp only [List.map_cons, List.map_nil, List.cons.injEq, and_true, RH, Nat.reduceAdd, Nat.reduceEqDiff, reduceIte, envOf0, envOf1, envOf2, envOf3, envOf4, envOf5, O0_0, K0_0, K0_2, K0_3, O0_0] at hO
      have O2_0 := hO
      try simp only [RH] at hN
      have e5 : wpad b 64 = wl b 64 := by unfold wpad; simp
      rw [show 16 + 48 = 64 from rfl, e5] at o2
      have hc := cut32 (k := .rw) (es := 1) (wl_length b 64)
      have hp := fun (H : Heap) (p : Nat) => puts32 (h := H) (b := p) (es := 1) (wl_length b 64) (List.length_replicate (n := 64) (a := 0#32))
      repeat (first
        | refine R_seq ?_ | refine R_region ?_ | refine R_nil ?_ | refine Q_seq ?_ | refine Q_norm ?_ | refine Q_seqr ?_ | refine Q_seqx ?_ | refine Q_bl ?_ | refine Q_blr ?_ | refine Q_blx ?_ | refine Q_blo rfl ?_ | refine R_block ?_ | refine R_skip ?_ | refine R_exit ?_ | refine R_ret ?_ | refine I_true ?_ | refine I_false ?_ | refine N_exit ?_ | refine N_ret ?_
        | ((first | apply R_op | apply R_op0)
           · (first | (simp (maxDischargeDepth := 9) only [RA, Nat.reduceEqDiff, Nat.reduceLT, Nat.reduceLeDiff, Nat.reduceAdd, Nat.reduceSub, Nat.reduceMul, Nat.reduceDiv, Nat.reduceMod, Nat.reducePow, Nat.reduceBEq, Nat.reduceGT, reduceIte, j7, o2, hc, hp, rep32, T3, T5, T22, T38, T94, T95, cv8_32 Try.underlying5 Try.underlying22, K0_0, K0_2, K0_3, O0_0, K2_2, K2_3, O2_0] <;> rfl) | ((repeat (first | (simp (maxDischargeDepth := 9) only [RA, Nat.reduceEqDiff, Nat.reduceLT, Nat.reduceLeDiff, Nat.reduceAdd, Nat.reduceSub, Nat.reduceMul, Nat.reduceDiv, Nat.reduceMod, Nat.reducePow, Nat.reduceBEq, Nat.reduceGT, reduceIte, j7, o2, hc, hp, rep32, T3, T5, T22, T38, T94, T95, cv8_32 Try.underlying5 Try.underlying22, K0_0, K0_2, K0_3, O0_0, K2_2, K2_3, O2_0]; done) | simp (maxDischargeDepth := 9) only [RA, Nat.reduceEqDiff, Nat.reduceLT, Nat.reduceLeDiff, Nat.reduceAdd, Nat.reduceSub, Nat.reduceMul, Nat.reduceDiv, Nat.reduceMod, Nat.reducePow, Nat.reduceBEq, Nat.reduceGT, reduceIte, j7, o2, hc, hp, rep32, T3, T5, T22, T38, T94, T95, cv8_32 Try.underlying5 Try.underlying22, K0_0, K0_2, K0_3, O0_0, K2_2, K2_3, O2_0] | simp (disch := first | assumption | omega) only [RV, j7, o2, hc, hp, rep32, T3, T5, T22, T38, T94, T95, cv8_32 Try.underlying5 Try.underlying22, K0_0, K0_2, K0_3, O0_0, K2_2, K2_3, O2_0])) <;> rfl)))
        | (apply R_cond
           · (simp only [RE, Nat.reduceEqDiff, Nat.reduceLT, Nat.reduceLeDiff, Nat.reduceBEq, reduceIte, j7, o2, hc, hp, rep32, T3, T5, T22, T38, T94, T95, cv8_32 Try.underlying5 Try.underlying22, K0_0, K0_2, K0_3, O0_0, K2_2, K2_3, O2_0] <;> rfl))
        | (apply R_grd
           · (simp only [yieldedA, RY, Nat.reduceEqDiff, reduceIte, j7, o2, hc, hp, rep32, T3, T5, T22, T38, T94, T95, cv8_32 Try.underlying5 Try.underlying22, K0_0, K0_2, K0_3, O0_0, K2_2, K2_3, O2_0] <;> rfl)))
      first | refine ⟨.inr rfl, ?_⟩ | refine ⟨.inl rfl, ?_⟩
      simp only [evResultList, evResult, K2_2, ld95, RH, upd_apply, Nat.reduceEqDiff, reduceIte, hc, Option.map_some]
      exact ⟨_, rfl, rfl, by (repeat (first | assumption | exact Fr.refl _ _ | refine Fr.new ?_ ?_ _ _ _ | refine Fr.put ?_ ?_ _ | omega | (simp only [RH]; omega)))⟩
end Go.Proofs.Ytfehhihllenjiaa
