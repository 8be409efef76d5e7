/- Bytes with those of the stream: the reference. -/
import Derived.Test.YtfehhihllenjiaaGa
import Derived.Test.YtfehhihllenjiaaPa
set_option linter.all false
namespace Go.Proofs.Ytfehhihllenjiaa
open Go.Proofs
attribute [local irreducible] evOps iter evD evF evC evLoad evStore evAlloc evIndexAddr evIndex evLenB evBox evBin evUn evConvert evExtract evSlice evAppend evCopy evNil evBuild evMakeSlice evBuildSlice evBuiltin Program.underlying
attribute [local irreducible] block xorS
def curB (k n' : List (BitVec 8)) (c : BitVec 32) (i : Nat) : List (BitVec 8) := if i = 0 then List.replicate 64 0#8 else block k n' (c + BitVec.ofNat 32 ((i - 1) / 64))
theorem curB_length (k n' : List (BitVec 8)) (c : BitVec 32) (i : Nat) : (curB k n' c i).length = 64 := by
  unfold curB; split
  · simp
  · exact block_length _ _ _
attribute [local irreducible] curB
theorem inl49 : inlOf Try.prog 49 = true := by kernel_rfl
theorem iso49 : isoOf Try.prog 49 = false := by kernel_rfl
set_option maxRecDepth 20000 in
set_option maxHeartbeats 8000000 in
theorem xor49 (q : Nat) (h : Heap) (k n' : List (BitVec 8)) (hk : k.length = 32) (hn : n'.length = 12) (c : BitVec 32) (v : Value) (b : List (BitVec 8)) (hb : By h v b) (hl : b.length ≤ 4294967296) :
    ∃ v' h', fcall Try.prog (q + 6) (.func (.func 49) #[] #[]) [.agg ⟨b8 k⟩, .agg ⟨b8 n'⟩, w32 c, v] h = some (.ok v', h') ∧ OwB h.nx h' v' (xorS k n' c b) ∧ Fr h.nx h h' := by
  rw [fcall_inl inl49 iso49, evF_eq Try.func49 rfl]
  apply evEnd_of_W
  simp only [Try.f49]
  repeat (first
    | refine R_seq ?_ | refine R_region ?_ | refine R_nil ?_ | refine Q_seq ?_ | refine Q_norm ?_ | refine Q_seqr ?_ | refine Q_seqx ?_ | refine Q_bl ?_ | refine Q_blr ?_ | refine Q_blx ?_ | refine Q_blo rfl ?_ | refine R_block ?_ | refine R_skip ?_ | refine R_exit ?_ | refine R_ret ?_ | refine I_true ?_ | refine I_false ?_ | refine N_exit ?_ | refine N_ret ?_
    | (refine R_draw (by kernel_rfl) ?_)
    | ((first | apply R_op | apply R_op0)
       · ((repeat (first | simp (maxDischargeDepth := 9) only [RA, Nat.reduceEqDiff, Nat.reduceLT, Nat.reduceLeDiff, Nat.reduceAdd, Nat.reduceSub, Nat.reduceMul, Nat.reduceDiv, Nat.reduceMod, Nat.reducePow, Nat.reduceBEq, Nat.reduceGT, reduceIte, hk, hn, S38len hb, S38ia hb, S38ld hb, S38h hb, S38l hb, S38lh hb, S38n hb, S38hm hb, S38lhm hb, S38str hb, RF, T1, T3, T5, T22, T30, T32, T33, T38, cvi_32 Try.underlying3 Try.underlying22] | simp (disch := first | assumption | omega) only [RV, hk, hn, S38len hb, S38ia hb, S38ld hb, S38h hb, S38l hb, S38lh hb, S38n hb, S38hm hb, S38lhm hb, S38str hb, RF])) <;> rfl))
    | (apply R_cond
       · (simp only [RE, Nat.reduceEqDiff, Nat.reduceLT, Nat.reduceLeDiff, Nat.reduceBEq, reduceIte] <;> rfl))
    | (apply R_grd
       · (simp only [yieldedA, RY, Nat.reduceEqDiff, reduceIte] <;> rfl)))
  refine W_loopK [2, 3, 4, 5, 10] [h.nx, h.nx + 1] (fun i e1 h1 => e1 11 = iv i ∧ OwB (h.nx + 3) h1 (e1 9) (xorS k n' c (b.take i)) ∧ Fr h.nx h h1 ∧ h1.obj (h.nx + 2) = some (.row .rw 1 (b8 (curB k n' c i)))) b.length (by omega) ?_ ?_ ?_
  · refine ⟨?_, ?_, ?_, ?_⟩
    · (try simp only [List.map_cons, List.map_nil, RH, Nat.reduceAdd, Nat.reduceEqDiff, reduceIte, ev_tmp, ev_const, lit_iv, lit_w8, lit_w32, lit_w64, envOf0, envOf1, envOf2, envOf3, envOf4, envOf5, T1, T3, T5, T22, T30, T32, T33, T38, cvi_32 Try.underlying3 Try.underlying22])
    · (try simp only [List.map_cons, List.map_nil, RH, Nat.reduceAdd, Nat.reduceEqDiff, reduceIte, ev_tmp, ev_const, lit_iv, lit_w8, lit_w32, lit_w64, envOf0, envOf1, envOf2, envOf3, envOf4, envOf5, T1, T3, T5, T22, T30, T32, T33, T38, cvi_32 Try.underlying3 Try.underlying22])
      rw [show xorS k n' c (b.take 0) = [] from List.length_eq_zero_iff.1 (by rw [xorS_length]; simp)]
      exact .nil
    · (repeat (first | assumption | exact Fr.refl _ _ | refine Fr.new ?_ ?_ _ _ _ | refine Fr.put ?_ ?_ _ | omega | (simp only [RH]; omega)))
    · (try simp only [List.map_cons, List.map_nil, RH, Nat.reduceAdd, Nat.reduceEqDiff, reduceIte, ev_tmp, ev_const, lit_iv, lit_w8, lit_w32, lit_w64, envOf0, envOf1, envOf2, envOf3, envOf4, envOf5, rep8, T1, T3, T5, T22, T30, T32, T33, T38, cvi_32 Try.underlying3 Try.underlying22])
      unfold curB; rfl
  · intro i hi e1 h1 hK hO hN ⟨j11, own1, F1, o2⟩
    simp only [List.map_cons, List.map_nil, List.cons.injEq, and_true, RH, Nat.reduceAdd, Nat.reduceEqDiff, reduceIte, envOf0, envOf1, envOf2, envOf3, envOf4, envOf5] at hK
    obtain ⟨K0_2, K0_3, K0_4, K0_5, K0_10⟩ := hK
    simp only [List.map_cons, List.map_nil, List.cons.injEq, and_true, RH, Nat.reduceAdd, Nat.reduceEqDiff, reduceIte, envOf0, envOf1, envOf2, envOf3, envOf4, envOf5] at hO
    obtain ⟨O0_0, O0_1⟩ := hO
    try simp only [RH] at hN
    have hcl := curB_length k n' c i
    have i64 : i % 64 < 64 := by omega
    have nr1 : h.nx + 2 ∉ rowsOfV (e1 9) := fun hr => by have := (own1.rows _ hr).1; omega
    have hnext : curB k n' c (i + 1) = block k n' (c + BitVec.ofNat 32 (i / 64)) := by
      unfold curB; rw [if_neg (by omega), Nat.add_sub_cancel]
    have hbl := block_length k n' (c + BitVec.ofNat 32 (i / 64))
    have a1 : (h.nx = h1.nx) = False := eq_false (by omega)
    have a2 : (h.nx + 1 = h1.nx) = False := eq_false (by omega)
    have a3 : (h.nx + 2 = h1.nx) = False := eq_false (by omega)
    have a4 : h.nx ≤ h1.nx := by omega
    have a5 : h.nx ≤ h.nx + 2 := by omega
    have hstep : xorS k n' c (b.take i) ++ [b.getD i 0#8 ^^^ (block k n' (c + BitVec.ofNat 32 (i / 64))).getD (i % 64) 0#8] = xorS k n' c (b.take (i + 1)) := (xorS_succ hi).symm
    have hget := fun (kd : Kind) (es : Nat) => get8 (k := kd) (es := es) (show i % 64 < (block k n' (c + BitVec.ofNat 32 (i / 64))).length by rw [hbl]; exact i64)
    have g0 : (h.nx = h.nx + 2) = False := eq_false (by omega)
    have g1 : (h.nx + 1 = h.nx + 2) = False := eq_false (by omega)
    by_cases h64 : i % 64 = 0
    all_goals
      try (have hcur : curB k n' c i = block k n' (c + BitVec.ofNat 32 (i / 64)) := by
             unfold curB; rw [if_neg (by omega), show (i - 1) / 64 = i / 64 by omega]
           rw [hcur] at o2)
      repeat (first
        | refine R_seq ?_ | refine R_region ?_ | refine R_nil ?_ | refine Q_seq ?_ | refine Q_norm ?_ | refine Q_seqr ?_ | refine Q_seqx ?_ | refine Q_bl ?_ | refine Q_blr ?_ | refine Q_blx ?_ | refine Q_blo rfl ?_ | refine R_block ?_ | refine R_skip ?_ | refine R_exit ?_ | refine R_ret ?_ | refine I_true ?_ | refine I_false ?_ | refine N_exit ?_ | refine N_ret ?_
        | (refine R_draw (by kernel_rfl) ?_)
        | ((first | apply R_op | apply R_op0)
           · ((repeat (first | simp (maxDischargeDepth := 9) only [RA, Nat.reduceEqDiff, Nat.reduceLT, Nat.reduceLeDiff, Nat.reduceAdd, Nat.reduceSub, Nat.reduceMul, Nat.reduceDiv, Nat.reduceMod, Nat.reducePow, Nat.reduceBEq, Nat.reduceGT, reduceIte, j11, o2, S38len hb, S38ia hb, S38ld hb, S38h hb, S38l hb, S38lh hb, S38n hb, S38hm hb, S38lhm hb, S38str hb, RF, F1, hi, h64, i64, hk, hn, cut8 hk, cut8 hn, block46 q k n' hk hn, puts8 hbl hcl, hget, hbl, a1, a2, a3, a4, a5, T1, T3, T5, T22, T30, T32, T33, T38, cvi_32 Try.underlying3 Try.underlying22, K0_2, K0_3, K0_4, K0_5, K0_10, O0_0, O0_1] | simp (disch := first | assumption | omega) only [RV, j11, o2, S38len hb, S38ia hb, S38ld hb, S38h hb, S38l hb, S38lh hb, S38n hb, S38hm hb, S38lhm hb, S38str hb, RF, F1, hi, h64, i64, hk, hn, cut8 hk, cut8 hn, block46 q k n' hk hn, puts8 hbl hcl, hget, hbl, a1, a2, a3, a4, a5, K0_2, K0_3, K0_4, K0_5, K0_10, O0_0, O0_1])) <;> rfl))
        | (apply R_cond
           · (simp only [RE, Nat.reduceEqDiff, Nat.reduceLT, Nat.reduceLeDiff, Nat.reduceBEq, reduceIte] <;> rfl))
        | (apply R_grd
           · (simp only [yieldedA, RY, Nat.reduceEqDiff, reduceIte] <;> rfl)))
      refine R_app E38 Try.underlying38 (v := e1 9) (w := .slice (some ⟨h1.nx, 0, none⟩) 1 1) (lo := h.nx + 3) (xs := xorS k n' c (b.take i)) (ys := [_]) ?_ ?_ (by first | exact own1.new | exact (own1.putR nr1).new) one_by (by simp only [RH]; omega) ?_ ?_
      · first | rfl | (first | rw [ev_tmp] | rw [ev_const] | skip) <;> simp only [upd_apply, Nat.reduceEqDiff, if_true, if_false, reduceIte, lit_iv, lit_w8, K0_2, K0_3, K0_4, K0_5, K0_10, O0_0, O0_1]
      · first | rfl | (first | rw [ev_tmp] | rw [ev_const] | skip) <;> simp only [upd_apply, Nat.reduceEqDiff, if_true, if_false, reduceIte, lit_iv, lit_w8, K0_2, K0_3, K0_4, K0_5, K0_10, O0_0, O0_1]
      · rw [xorS_length]; simp; omega
      · intro v3 h3 own3 wt3
        try rw [h64] at hstep
        rw [hstep] at own3
        have w0 := wt3.rest h.nx (by simp only [RH]; omega) (fun hr => by have := (own1.rows _ hr).1; omega)
        have w1 := wt3.rest (h.nx + 1) (by simp only [RH]; omega) (fun hr => by have := (own1.rows _ hr).1; omega)
        have w2 := wt3.rest (h.nx + 2) (by simp only [RH]; omega) nr1
        have wn := wt3.nx
        simp only [RH, a1, a2, a3, o2, g0, g1, Nat.reduceEqDiff, reduceIte] at w0 w1 w2 wn
        repeat (first
          | refine R_seq ?_ | refine R_region ?_ | refine R_nil ?_ | refine Q_seq ?_ | refine Q_norm ?_ | refine Q_seqr ?_ | refine Q_seqx ?_ | refine Q_bl ?_ | refine Q_blr ?_ | refine Q_blx ?_ | refine Q_blo rfl ?_ | refine R_block ?_ | refine R_skip ?_ | refine R_exit ?_ | refine R_ret ?_ | refine I_true ?_ | refine I_false ?_ | refine N_exit ?_ | refine N_ret ?_
          | (refine R_draw (by kernel_rfl) ?_)
          | ((first | apply R_op | apply R_op0)
             · ((repeat (first | simp (maxDischargeDepth := 9) only [RA, Nat.reduceEqDiff, Nat.reduceLT, Nat.reduceLeDiff, Nat.reduceAdd, Nat.reduceSub, Nat.reduceMul, Nat.reduceDiv, Nat.reduceMod, Nat.reducePow, Nat.reduceBEq, Nat.reduceGT, reduceIte, j11, T1, T3, T5, T22, T30, T32, T33, T38, cvi_32 Try.underlying3 Try.underlying22, K0_2, K0_3, K0_4, K0_5, K0_10, O0_0, O0_1] | simp (disch := first | assumption | omega) only [RV, j11, K0_2, K0_3, K0_4, K0_5, K0_10, O0_0, O0_1])) <;> rfl))
          | (apply R_cond
             · (simp only [RE, Nat.reduceEqDiff, Nat.reduceLT, Nat.reduceLeDiff, Nat.reduceBEq, reduceIte] <;> rfl))
          | (apply R_grd
             · (simp only [yieldedA, RY, Nat.reduceEqDiff, reduceIte] <;> rfl)))
        refine ⟨rfl, by first | rfl | simp only [List.map_cons, List.map_nil, RH, Nat.reduceAdd, Nat.reduceEqDiff, reduceIte, w0, w1, w2, T1, T3, T5, T22, T30, T32, T33, T38, cvi_32 Try.underlying3 Try.underlying22, K0_2, K0_3, K0_4, K0_5, K0_10, O0_0, O0_1], by first | rfl | simp only [List.map_cons, List.map_nil, RH, Nat.reduceAdd, Nat.reduceEqDiff, reduceIte, w0, w1, w2, T1, T3, T5, T22, T30, T32, T33, T38, cvi_32 Try.underlying3 Try.underlying22, K0_2, K0_3, K0_4, K0_5, K0_10, O0_0, O0_1], by first | (simp only [RH, w0, w1, w2, T1, T3, T5, T22, T30, T32, T33, T38, cvi_32 Try.underlying3 Try.underlying22, K0_2, K0_3, K0_4, K0_5, K0_10, O0_0, O0_1]; done) | ((try simp only [RH, w0, w1, w2, T1, T3, T5, T22, T30, T32, T33, T38, cvi_32 Try.underlying3 Try.underlying22, K0_2, K0_3, K0_4, K0_5, K0_10, O0_0, O0_1]); omega), ?_⟩
        refine ⟨?_, ?_, ?_, ?_⟩
        · (try simp only [List.map_cons, List.map_nil, RH, Nat.reduceAdd, Nat.reduceEqDiff, reduceIte, ev_tmp, ev_const, lit_iv, lit_w8, lit_w32, lit_w64, envOf0, envOf1, envOf2, envOf3, envOf4, envOf5, T1, T3, T5, T22, T30, T32, T33, T38, cvi_32 Try.underlying3 Try.underlying22, K0_2, K0_3, K0_4, K0_5, K0_10, O0_0, O0_1])
        · (try simp only [List.map_cons, List.map_nil, RH, Nat.reduceAdd, Nat.reduceEqDiff, reduceIte, ev_tmp, ev_const, lit_iv, lit_w8, lit_w32, lit_w64, envOf0, envOf1, envOf2, envOf3, envOf4, envOf5, T1, T3, T5, T22, T30, T32, T33, T38, cvi_32 Try.underlying3 Try.underlying22, K0_2, K0_3, K0_4, K0_5, K0_10, O0_0, O0_1])
          exact own3
        · refine Fr.trans (h1 := newRowH _ _ _ _) ?_ (wt3.fr (by simp only [RH]; omega) fun r hr => by have := (own1.rows _ hr).1; omega)
          (repeat (first | assumption | exact Fr.refl _ _ | refine Fr.new ?_ ?_ _ _ _ | refine Fr.put ?_ ?_ _ | omega | (simp only [RH]; omega)))
        · rw [w2, hnext]
  · intro e1 h1 hK hO hN ⟨j11, own1, F1, o2⟩
    simp only [List.map_cons, List.map_nil, List.cons.injEq, and_true, RH, Nat.reduceAdd, Nat.reduceEqDiff, reduceIte, envOf0, envOf1, envOf2, envOf3, envOf4, envOf5] at hK
    obtain ⟨K0_2, K0_3, K0_4, K0_5, K0_10⟩ := hK
    simp only [List.map_cons, List.map_nil, List.cons.injEq, and_true, RH, Nat.reduceAdd, Nat.reduceEqDiff, reduceIte, envOf0, envOf1, envOf2, envOf3, envOf4, envOf5] at hO
    obtain ⟨O0_0, O0_1⟩ := hO
    try simp only [RH] at hN
    repeat (first
      | refine R_seq ?_ | refine R_region ?_ | refine R_nil ?_ | refine Q_seq ?_ | refine Q_norm ?_ | refine Q_seqr ?_ | refine Q_seqx ?_ | refine Q_bl ?_ | refine Q_blr ?_ | refine Q_blx ?_ | refine Q_blo rfl ?_ | refine R_block ?_ | refine R_skip ?_ | refine R_exit ?_ | refine R_ret ?_ | refine I_true ?_ | refine I_false ?_ | refine N_exit ?_ | refine N_ret ?_
      | (refine R_draw (by kernel_rfl) ?_)
      | ((first | apply R_op | apply R_op0)
         · ((repeat (first | simp (maxDischargeDepth := 9) only [RA, Nat.reduceEqDiff, Nat.reduceLT, Nat.reduceLeDiff, Nat.reduceAdd, Nat.reduceSub, Nat.reduceMul, Nat.reduceDiv, Nat.reduceMod, Nat.reducePow, Nat.reduceBEq, Nat.reduceGT, reduceIte, j11, S38len hb, S38ia hb, S38ld hb, S38h hb, S38l hb, S38lh hb, S38n hb, S38hm hb, S38lhm hb, S38str hb, RF, T1, T3, T5, T22, T30, T32, T33, T38, cvi_32 Try.underlying3 Try.underlying22, K0_2, K0_3, K0_4, K0_5, K0_10, O0_0, O0_1] | simp (disch := first | assumption | omega) only [RV, j11, S38len hb, S38ia hb, S38ld hb, S38h hb, S38l hb, S38lh hb, S38n hb, S38hm hb, S38lhm hb, S38str hb, RF, K0_2, K0_3, K0_4, K0_5, K0_10, O0_0, O0_1])) <;> rfl))
      | (apply R_cond
         · (simp only [RE, Nat.reduceEqDiff, Nat.reduceLT, Nat.reduceLeDiff, Nat.reduceBEq, reduceIte] <;> rfl))
      | (apply R_grd
         · (simp only [yieldedA, RY, Nat.reduceEqDiff, reduceIte] <;> rfl)))
    refine ⟨.inr rfl, _, rfl, ?_, F1⟩
    (try simp only [List.map_cons, List.map_nil, RH, Nat.reduceAdd, Nat.reduceEqDiff, reduceIte, ev_tmp, ev_const, lit_iv, lit_w8, lit_w32, lit_w64, envOf0, envOf1, envOf2, envOf3, envOf4, envOf5, packR, T1, T3, T5, T22, T30, T32, T33, T38, cvi_32 Try.underlying3 Try.underlying22, K0_2, K0_3, K0_4, K0_5, K0_10, O0_0, O0_1])
    rw [List.take_length] at own1
    exact own1.le (by omega)
end Go.Proofs.Ytfehhihllenjiaa
