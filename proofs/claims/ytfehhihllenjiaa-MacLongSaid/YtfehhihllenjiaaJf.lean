/- Tags: what is drawn from keys. -/
import Derived.Test.YtfehhihllenjiaaJe
set_option linter.all false
namespace Go.Proofs.Ytfehhihllenjiaa
open Go.Proofs
attribute [local irreducible] evOps iter evD evF evC evLoad evStore evAlloc evIndexAddr evIndex evLenB evBox evBin evUn evConvert evExtract evSlice evAppend evCopy evNil evBuild evMakeSlice evBuildSlice evBuiltin Program.underlying
def expT (key info : List (BitVec 8)) : Nat → List (BitVec 8)
  | 0 => []
  | j + 1 => hmacS key (expT key info j ++ info ++ [BitVec.ofNat 8 (j + 1)])
def expO (key info : List (BitVec 8)) : Nat → List (BitVec 8)
  | 0 => []
  | j + 1 => expO key info j ++ expT key info (j + 1)
theorem expT_zero (key info : List (BitVec 8)) : expT key info 0 = [] := rfl
theorem expT_succ (key info : List (BitVec 8)) (j : Nat) : expT key info (j + 1) = hmacS key (expT key info j ++ info ++ [BitVec.ofNat 8 (j + 1)]) := rfl
theorem expO_zero (key info : List (BitVec 8)) : expO key info 0 = [] := rfl
theorem expO_succ (key info : List (BitVec 8)) (j : Nat) : expO key info (j + 1) = expO key info j ++ expT key info (j + 1) := rfl
theorem expT_length (key info : List (BitVec 8)) (j : Nat) : (expT key info (j + 1)).length = 32 := by rw [expT_succ, hmacS_length]
theorem expT_le (key info : List (BitVec 8)) (j : Nat) : (expT key info j).length ≤ 32 := by
  cases j with
  | zero => rw [expT_zero]; simp
  | succ j => rw [expT_length]; omega
theorem expO_length (key info : List (BitVec 8)) (j : Nat) : (expO key info j).length = 32 * j := by
  induction j with
  | zero => rfl
  | succ j ih => rw [expO_succ, List.length_append, ih, expT_length]; omega
def expS (key info : List (BitVec 8)) (n : Nat) : List (BitVec 8) := (expO key info ((n + 31) / 32)).take n
theorem expS_length (key info : List (BitVec 8)) (n : Nat) : (expS key info n).length = n := by
  rw [expS, List.length_take, expO_length]; omega
theorem expO_take (key info : List (BitVec 8)) {j k : Nat} (h : j ≤ k) : (expO key info k).take (32 * j) = expO key info j := by
  induction k with
  | zero =>
    have : j = 0 := by omega
    subst this
    rfl
  | succ k ih =>
    by_cases e : j = k + 1
    · subst e
      exact List.take_of_length_le (by rw [expO_length]; exact Nat.le_refl _)
    · rw [expO_succ, List.take_append_of_le_length (by rw [expO_length]; omega), ih (by omega)]
theorem expS_take (key info : List (BitVec 8)) {m n : Nat} (h : m ≤ n) : (expS key info n).take m = expS key info m := by
  unfold expS
  rw [List.take_take, Nat.min_eq_left h, ← expO_take key info (show (m + 31) / 32 ≤ (n + 31) / 32 by omega), List.take_take, Nat.min_eq_left (by omega)]
theorem cat3 (a b c : List (BitVec 8)) : catN (fun i => [a, b, c].getD i []) 3 = a ++ b ++ c := by simp [catN]
theorem nv_lss {P : Program} {t : TypeId} {l : Bool} (n m : Nat) (h : 0 < n) : evBin P .lss t l (nv n) (iv m) = some (.bool true) := by
  refine (bin_int (by decide)).trans ?_
  simp only [evIntOp, Option.some.injEq, Value.bool.injEq, decide_eq_true_eq]; omega
theorem nv_gtr {P : Program} {t : TypeId} {l : Bool} (n m : Nat) : evBin P .gtr t l (nv n) (iv m) = some (.bool false) := by
  refine (bin_int (by decide)).trans ?_
  simp only [evIntOp, Option.some.injEq, Value.bool.injEq, decide_eq_false_iff_not]; omega
theorem nv_leq {P : Program} {t : TypeId} {l : Bool} (n m : Nat) : evBin P .leq t l (nv n) (iv m) = some (.bool true) := by
  refine (bin_int (by decide)).trans ?_
  simp only [evIntOp, Option.some.injEq, Value.bool.injEq, decide_eq_true_eq]; omega
theorem nv_geq {P : Program} {t : TypeId} {l : Bool} (n m : Nat) (h : 0 < n) : evBin P .geq t l (nv n) (iv m) = some (.bool false) := by
  refine (bin_int (by decide)).trans ?_
  simp only [evIntOp, Option.some.injEq, Value.bool.injEq, decide_eq_false_iff_not]; omega
theorem bu120 : evBuild Try.prog 120 [] = some (.agg ⟨[.slice none 0 0]⟩) := by kernel_rfl
theorem box120 {h : Heap} : evBox (.agg ⟨[.slice none 0 0]⟩) h = some (.pointer (some ⟨h.nx, 0, none⟩), newRowH h .rw 1 [.slice none 0 0]) := box_agg rfl
theorem bs3s {a b c : Option Addr} {n m k x y z : Nat} {h : Heap} : evBuildSlice Try.prog 134 3 [(0, .slice a n x), (1, .slice b m y), (2, .slice c k z)] h = some (.slice (some ⟨h.nx, 0, none⟩) 3 3, newRowH h .rw 1 [.slice a n x, .slice b m y, .slice c k z]) := bs_3 E134 rfl rfl rfl
attribute [local irreducible] sumS turnB keyS padK hmacS turnR catN expT expO
/-- What the program answers where too much is asked. -/
def badLen (z : Value) : Prop := (∃ n, 0 < n ∧ z = nv n) ∨ ∃ n, 8160 < n ∧ z = iv n
theorem inl72 : inlOf Try.prog 72 = true := by kernel_rfl
theorem iso72 : isoOf Try.prog 72 = false := by kernel_rfl
set_option maxRecDepth 20000 in
set_option maxHeartbeats 8000000 in
theorem exp72bad (q : Nat) (h : Heap) (key : List (BitVec 8)) (w z : Value) (hk : key.length = 32) (hz : badLen z) :
    ∃ v' h', fcall Try.prog (q + 1) (.func (.func 72) #[] #[]) [.agg ⟨b8 key⟩, w, z] h = some (.ok v', h') ∧ v' = .tuple #[.slice none 0 0, iv 2] ∧ Fr h.nx h h' := by
  rw [fcall_inl inl72 iso72, evF_eq Try.func72 rfl]
  apply evEnd_of_W
  simp only [Try.f72]
  rcases hz with ⟨n, hn, rfl⟩ | ⟨n, hn, rfl⟩
  · repeat (first
    | refine R_seq ?_ | refine R_region ?_ | refine R_nil ?_ | refine Q_seq ?_ | refine Q_norm ?_ | refine Q_seqr ?_ | refine Q_seqx ?_ | refine Q_bl ?_ | refine Q_blr ?_ | refine Q_blx ?_ | refine Q_blo rfl ?_ | refine R_block ?_ | refine R_skip ?_ | refine R_exit ?_ | refine R_ret ?_ | refine I_true ?_ | refine I_false ?_ | refine N_exit ?_ | refine N_ret ?_
    | (refine R_draw (by kernel_rfl) ?_)
    | ((first | apply R_op | apply R_op0)
       · (first | (simp (maxDischargeDepth := 9) only [RA, Nat.reduceEqDiff, Nat.reduceLT, Nat.reduceLeDiff, Nat.reduceAdd, Nat.reduceSub, Nat.reduceMul, Nat.reduceDiv, Nat.reduceMod, Nat.reducePow, Nat.reduceBEq, Nat.reduceGT, reduceIte, hk, nv_lss n 0 hn, T1, T3, T5, T30, T38, T120, T124, T134, cvi_8 Try.underlying3 Try.underlying5] <;> rfl) | ((repeat (first | (simp (maxDischargeDepth := 9) only [RA, Nat.reduceEqDiff, Nat.reduceLT, Nat.reduceLeDiff, Nat.reduceAdd, Nat.reduceSub, Nat.reduceMul, Nat.reduceDiv, Nat.reduceMod, Nat.reducePow, Nat.reduceBEq, Nat.reduceGT, reduceIte, hk, nv_lss n 0 hn, T1, T3, T5, T30, T38, T120, T124, T134, cvi_8 Try.underlying3 Try.underlying5]; done) | simp (maxDischargeDepth := 9) only [RA, Nat.reduceEqDiff, Nat.reduceLT, Nat.reduceLeDiff, Nat.reduceAdd, Nat.reduceSub, Nat.reduceMul, Nat.reduceDiv, Nat.reduceMod, Nat.reducePow, Nat.reduceBEq, Nat.reduceGT, reduceIte, hk, nv_lss n 0 hn, T1, T3, T5, T30, T38, T120, T124, T134, cvi_8 Try.underlying3 Try.underlying5] | simp (disch := first | assumption | omega) only [RV, hk, nv_lss n 0 hn, T1, T3, T5, T30, T38, T120, T124, T134, cvi_8 Try.underlying3 Try.underlying5])) <;> rfl)))
    | (apply R_cond
       · (simp only [RE, Nat.reduceEqDiff, Nat.reduceLT, Nat.reduceLeDiff, Nat.reduceBEq, reduceIte, hk, nv_lss n 0 hn, T1, T3, T5, T30, T38, T120, T124, T134, cvi_8 Try.underlying3 Try.underlying5] <;> rfl))
    | (apply R_grd
       · (simp only [yieldedA, RY, Nat.reduceEqDiff, reduceIte, hk, nv_lss n 0 hn, T1, T3, T5, T30, T38, T120, T124, T134, cvi_8 Try.underlying3 Try.underlying5] <;> rfl)))
    refine ⟨.inr rfl, _, rfl, ?_, by (repeat (first | assumption | exact Fr.refl _ _ | refine Fr.new ?_ ?_ _ _ _ | refine Fr.put ?_ ?_ _ | omega | (simp only [RH]; omega)))⟩
    (try simp only [List.map_cons, List.map_nil, RH, Nat.reduceAdd, Nat.reduceEqDiff, reduceIte, ev_tmp, ev_const, lit_iv, lit_w8, lit_w32, lit_w64, envOf0, envOf1, envOf2, envOf3, envOf4, envOf5, packR, T1, T3, T5, T30, T38, T120, T124, T134, cvi_8 Try.underlying3 Try.underlying5])
  · have hn0 : ¬ n < 0 := by omega
    repeat (first
      | refine R_seq ?_ | refine R_region ?_ | refine R_nil ?_ | refine Q_seq ?_ | refine Q_norm ?_ | refine Q_seqr ?_ | refine Q_seqx ?_ | refine Q_bl ?_ | refine Q_blr ?_ | refine Q_blx ?_ | refine Q_blo rfl ?_ | refine R_block ?_ | refine R_skip ?_ | refine R_exit ?_ | refine R_ret ?_ | refine I_true ?_ | refine I_false ?_ | refine N_exit ?_ | refine N_ret ?_
      | (refine R_draw (by kernel_rfl) ?_)
      | ((first | apply R_op | apply R_op0)
         · (first | (simp (maxDischargeDepth := 9) only [RA, Nat.reduceEqDiff, Nat.reduceLT, Nat.reduceLeDiff, Nat.reduceAdd, Nat.reduceSub, Nat.reduceMul, Nat.reduceDiv, Nat.reduceMod, Nat.reducePow, Nat.reduceBEq, Nat.reduceGT, reduceIte, hk, hn, hn0, T1, T3, T5, T30, T38, T120, T124, T134, cvi_8 Try.underlying3 Try.underlying5] <;> rfl) | ((repeat (first | (simp (maxDischargeDepth := 9) only [RA, Nat.reduceEqDiff, Nat.reduceLT, Nat.reduceLeDiff, Nat.reduceAdd, Nat.reduceSub, Nat.reduceMul, Nat.reduceDiv, Nat.reduceMod, Nat.reducePow, Nat.reduceBEq, Nat.reduceGT, reduceIte, hk, hn, hn0, T1, T3, T5, T30, T38, T120, T124, T134, cvi_8 Try.underlying3 Try.underlying5]; done) | simp (maxDischargeDepth := 9) only [RA, Nat.reduceEqDiff, Nat.reduceLT, Nat.reduceLeDiff, Nat.reduceAdd, Nat.reduceSub, Nat.reduceMul, Nat.reduceDiv, Nat.reduceMod, Nat.reducePow, Nat.reduceBEq, Nat.reduceGT, reduceIte, hk, hn, hn0, T1, T3, T5, T30, T38, T120, T124, T134, cvi_8 Try.underlying3 Try.underlying5] | simp (disch := first | assumption | omega) only [RV, hk, hn, hn0, T1, T3, T5, T30, T38, T120, T124, T134, cvi_8 Try.underlying3 Try.underlying5])) <;> rfl)))
      | (apply R_cond
         · (simp only [RE, Nat.reduceEqDiff, Nat.reduceLT, Nat.reduceLeDiff, Nat.reduceBEq, reduceIte, hk, hn, hn0, T1, T3, T5, T30, T38, T120, T124, T134, cvi_8 Try.underlying3 Try.underlying5] <;> rfl))
      | (apply R_grd
         · (simp only [yieldedA, RY, Nat.reduceEqDiff, reduceIte, hk, hn, hn0, T1, T3, T5, T30, T38, T120, T124, T134, cvi_8 Try.underlying3 Try.underlying5] <;> rfl)))
    refine ⟨.inr rfl, _, rfl, ?_, by (repeat (first | assumption | exact Fr.refl _ _ | refine Fr.new ?_ ?_ _ _ _ | refine Fr.put ?_ ?_ _ | omega | (simp only [RH]; omega)))⟩
    (try simp only [List.map_cons, List.map_nil, RH, Nat.reduceAdd, Nat.reduceEqDiff, reduceIte, ev_tmp, ev_const, lit_iv, lit_w8, lit_w32, lit_w64, envOf0, envOf1, envOf2, envOf3, envOf4, envOf5, packR, T1, T3, T5, T30, T38, T120, T124, T134, cvi_8 Try.underlying3 Try.underlying5])
set_option maxRecDepth 20000 in
set_option maxHeartbeats 8000000 in
theorem exp72 (q : Nat) (h : Heap) (key : List (BitVec 8)) (w : Value) (info : List (BitVec 8)) (n : Nat) (hk : key.length = 32) (hi : By h w info) (hil : info.length ≤ 1048576) (hn : n ≤ 8160) :
    ∃ v' h', fcall Try.prog (q + 10) (.func (.func 72) #[] #[]) [.agg ⟨b8 key⟩, w, iv n] h = some (.ok v', h') ∧ (∃ v, v' = .tuple #[v, iv 0] ∧ By h' v (expS key info n)) ∧ Fr h.nx h h' := by
  obtain ⟨aw, cw, hwe⟩ := sl_shape hi
  subst hwe
  rw [fcall_inl inl72 iso72, evF_eq Try.func72 rfl]
  apply evEnd_of_W
  simp only [Try.f72]
  have hn0 : ¬ n < 0 := by omega
  have hn1 : ¬ 8160 < n := by omega
  repeat (first
    | refine R_seq ?_ | refine R_region ?_ | refine R_nil ?_ | refine Q_seq ?_ | refine Q_norm ?_ | refine Q_seqr ?_ | refine Q_seqx ?_ | refine Q_bl ?_ | refine Q_blr ?_ | refine Q_blx ?_ | refine Q_blo rfl ?_ | refine R_block ?_ | refine R_skip ?_ | refine R_exit ?_ | refine R_ret ?_ | refine I_true ?_ | refine I_false ?_ | refine N_exit ?_ | refine N_ret ?_
    | (refine R_draw (by kernel_rfl) ?_)
    | ((first | apply R_op | apply R_op0)
       · (first | (simp (maxDischargeDepth := 9) only [RA, Nat.reduceEqDiff, Nat.reduceLT, Nat.reduceLeDiff, Nat.reduceAdd, Nat.reduceSub, Nat.reduceMul, Nat.reduceDiv, Nat.reduceMod, Nat.reducePow, Nat.reduceBEq, Nat.reduceGT, reduceIte, hk, hn0, hn1, T1, T3, T5, T30, T38, T120, T124, T134, cvi_8 Try.underlying3 Try.underlying5] <;> rfl) | ((repeat (first | (simp (maxDischargeDepth := 9) only [RA, Nat.reduceEqDiff, Nat.reduceLT, Nat.reduceLeDiff, Nat.reduceAdd, Nat.reduceSub, Nat.reduceMul, Nat.reduceDiv, Nat.reduceMod, Nat.reducePow, Nat.reduceBEq, Nat.reduceGT, reduceIte, hk, hn0, hn1, T1, T3, T5, T30, T38, T120, T124, T134, cvi_8 Try.underlying3 Try.underlying5]; done) | simp (maxDischargeDepth := 9) only [RA, Nat.reduceEqDiff, Nat.reduceLT, Nat.reduceLeDiff, Nat.reduceAdd, Nat.reduceSub, Nat.reduceMul, Nat.reduceDiv, Nat.reduceMod, Nat.reducePow, Nat.reduceBEq, Nat.reduceGT, reduceIte, hk, hn0, hn1, T1, T3, T5, T30, T38, T120, T124, T134, cvi_8 Try.underlying3 Try.underlying5] | simp (disch := first | assumption | omega) only [RV, hk, hn0, hn1, T1, T3, T5, T30, T38, T120, T124, T134, cvi_8 Try.underlying3 Try.underlying5])) <;> rfl)))
    | (apply R_cond
       · (simp only [RE, Nat.reduceEqDiff, Nat.reduceLT, Nat.reduceLeDiff, Nat.reduceBEq, reduceIte, hk, hn0, hn1, T1, T3, T5, T30, T38, T120, T124, T134, cvi_8 Try.underlying3 Try.underlying5] <;> rfl))
    | (apply R_grd
       · (simp only [yieldedA, RY, Nat.reduceEqDiff, reduceIte, hk, hn0, hn1, T1, T3, T5, T30, T38, T120, T124, T134, cvi_8 Try.underlying3 Try.underlying5] <;> rfl)))
  refine W_loopK [1, 2, 3] [h.nx] (fun j e1 h1 => e1 10 = iv (j + 1) ∧ OwB (h.nx + 1) h1 (e1 8) (expO key info j) ∧ By h1 (e1 9) (expT key info j) ∧ Fr h.nx h h1) ((n + 31) / 32) (by omega) ?_ ?_ ?_
  · refine ⟨by (try simp only [List.map_cons, List.map_nil, RH, Nat.reduceAdd, Nat.reduceEqDiff, reduceIte, ev_tmp, ev_const, lit_iv, lit_w8, lit_w32, lit_w64, envOf0, envOf1, envOf2, envOf3, envOf4, envOf5, T1, T3, T5, T30, T38, T120, T124, T134, cvi_8 Try.underlying3 Try.underlying5]), ?_, ?_, by (repeat (first | assumption | exact Fr.refl _ _ | refine Fr.new ?_ ?_ _ _ _ | refine Fr.put ?_ ?_ _ | omega | (simp only [RH]; omega)))⟩
    · (try simp only [List.map_cons, List.map_nil, RH, Nat.reduceAdd, Nat.reduceEqDiff, reduceIte, ev_tmp, ev_const, lit_iv, lit_w8, lit_w32, lit_w64, envOf0, envOf1, envOf2, envOf3, envOf4, envOf5, expO_zero, T1, T3, T5, T30, T38, T120, T124, T134, cvi_8 Try.underlying3 Try.underlying5]); exact .nil
    · (try simp only [List.map_cons, List.map_nil, RH, Nat.reduceAdd, Nat.reduceEqDiff, reduceIte, ev_tmp, ev_const, lit_iv, lit_w8, lit_w32, lit_w64, envOf0, envOf1, envOf2, envOf3, envOf4, envOf5, expT_zero, T1, T3, T5, T30, T38, T120, T124, T134, cvi_8 Try.underlying3 Try.underlying5]); exact .nil
  · intro j hj e1 h1 hK hO hN ⟨j10, own8, b9, F1⟩
    simp only [List.map_cons, List.map_nil, List.cons.injEq, and_true, RH, Nat.reduceAdd, Nat.reduceEqDiff, reduceIte, envOf0, envOf1, envOf2, envOf3, envOf4, envOf5] at hK
    obtain ⟨K0_1, K0_2, K0_3⟩ := hK
    simp only [List.map_cons, List.map_nil, List.cons.injEq, and_true, RH, Nat.reduceAdd, Nat.reduceEqDiff, reduceIte, envOf0, envOf1, envOf2, envOf3, envOf4, envOf5] at hO
    have O0_0 := hO
    try simp only [RH] at hN
    obtain ⟨a9, c9, hv9⟩ := sl_shape b9
    have hjn : 32 * j < n := by omega
    have hol := expO_length key info j
    have htl := expT_le key info j
    repeat (first
      | refine R_seq ?_ | refine R_region ?_ | refine R_nil ?_ | refine Q_seq ?_ | refine Q_norm ?_ | refine Q_seqr ?_ | refine Q_seqx ?_ | refine Q_bl ?_ | refine Q_blr ?_ | refine Q_blx ?_ | refine Q_blo rfl ?_ | refine R_block ?_ | refine R_skip ?_ | refine R_exit ?_ | refine R_ret ?_ | refine I_true ?_ | refine I_false ?_ | refine N_exit ?_ | refine N_ret ?_
      | ((first | apply R_op | apply R_op0)
         · (first | (simp (maxDischargeDepth := 9) only [RA, Nat.reduceEqDiff, Nat.reduceLT, Nat.reduceLeDiff, Nat.reduceAdd, Nat.reduceSub, Nat.reduceMul, Nat.reduceDiv, Nat.reduceMod, Nat.reducePow, Nat.reduceBEq, Nat.reduceGT, reduceIte, j10, hv9, S38len own8.sl, hol, hjn, bu120, box120, bs3s, T1, T3, T5, T30, T38, T120, T124, T134, cvi_8 Try.underlying3 Try.underlying5, K0_1, K0_2, K0_3, O0_0] <;> rfl) | ((repeat (first | (simp (maxDischargeDepth := 9) only [RA, Nat.reduceEqDiff, Nat.reduceLT, Nat.reduceLeDiff, Nat.reduceAdd, Nat.reduceSub, Nat.reduceMul, Nat.reduceDiv, Nat.reduceMod, Nat.reducePow, Nat.reduceBEq, Nat.reduceGT, reduceIte, j10, hv9, S38len own8.sl, hol, hjn, bu120, box120, bs3s, T1, T3, T5, T30, T38, T120, T124, T134, cvi_8 Try.underlying3 Try.underlying5, K0_1, K0_2, K0_3, O0_0]; done) | simp (maxDischargeDepth := 9) only [RA, Nat.reduceEqDiff, Nat.reduceLT, Nat.reduceLeDiff, Nat.reduceAdd, Nat.reduceSub, Nat.reduceMul, Nat.reduceDiv, Nat.reduceMod, Nat.reducePow, Nat.reduceBEq, Nat.reduceGT, reduceIte, j10, hv9, S38len own8.sl, hol, hjn, bu120, box120, bs3s, T1, T3, T5, T30, T38, T120, T124, T134, cvi_8 Try.underlying3 Try.underlying5, K0_1, K0_2, K0_3, O0_0] | simp (disch := first | assumption | omega) only [RV, j10, hv9, S38len own8.sl, hol, hjn, bu120, box120, bs3s, T1, T3, T5, T30, T38, T120, T124, T134, cvi_8 Try.underlying3 Try.underlying5, K0_1, K0_2, K0_3, O0_0])) <;> rfl)))
      | (apply R_cond
         · (simp only [RE, Nat.reduceEqDiff, Nat.reduceLT, Nat.reduceLeDiff, Nat.reduceBEq, reduceIte, j10, hv9, S38len own8.sl, hol, hjn, bu120, box120, bs3s, T1, T3, T5, T30, T38, T120, T124, T134, cvi_8 Try.underlying3 Try.underlying5, K0_1, K0_2, K0_3, O0_0] <;> rfl))
      | (apply R_grd
         · (simp only [yieldedA, RY, Nat.reduceEqDiff, reduceIte, j10, hv9, S38len own8.sl, hol, hjn, bu120, box120, bs3s, T1, T3, T5, T30, T38, T120, T124, T134, cvi_8 Try.underlying3 Try.underlying5, K0_1, K0_2, K0_3, O0_0] <;> rfl)))
    rw [hv9] at b9
    refine O_heap fun H hH => ?_
    have oP : H.obj h1.nx = some (.row .rw 1 [.slice none 0 0]) := by rw [hH]; simp [RH]
    have oQ : H.obj (h1.nx + 1) = some (.row .rw 1 (b8 [BitVec.ofNat 8 (j + 1)])) := by rw [hH]; simp [RH]; rfl
    have oR : H.obj (h1.nx + 2) = some (.row .rw 1 [.slice a9 (expT key info j).length c9, .slice aw info.length cw, .slice (some ⟨h1.nx + 1, 0, none⟩) 1 1]) := by rw [hH]; simp [RH]
    have nH : H.nx = h1.nx + 3 := by rw [hH]; simp [RH]
    have own8H : OwB (h.nx + 1) H (e1 8) (expO key info j) := by rw [hH]; exact own8.new.new.new
    have b9H : By H (.slice a9 (expT key info j).length c9) (expT key info j) := by rw [hH]; exact b9.fr0 (by (repeat (first | assumption | exact Fr.refl _ _ | refine Fr.new ?_ ?_ _ _ _ | refine Fr.put ?_ ?_ _ | omega | (simp only [RH]; omega))))
    have FH : Fr h.nx h H := by rw [hH]; (repeat (first | assumption | exact Fr.refl _ _ | refine Fr.new ?_ ?_ _ _ _ | refine Fr.put ?_ ?_ _ | omega | (simp only [RH]; omega)))
    have xH : ∀ r, r < h1.nx → H.obj r = h1.obj r := fun r hr => by
      have r1 : (r = h1.nx) = False := eq_false (by omega)
      have r2 : (r = h1.nx + 1) = False := eq_false (by omega)
      have r3 : (r = h1.nx + 2) = False := eq_false (by omega)
      rw [hH]; simp only [RH, r1, r2, r3, reduceIte]
    clear hH
    have biH := hi.fr0 FH
    have r9 := b9.lt
    have ri := hi.lt
    have hput := put109 (q + 8) (h1.nx + 1) h1.nx (h1.nx + 2) 3 H (.slice none 0 0) [] [.slice a9 (expT key info j).length c9, .slice aw info.length cw, .slice (some ⟨h1.nx + 1, 0, none⟩) 1 1] (fun i => [expT key info j, info, [BitVec.ofNat 8 (j + 1)]].getD i []) oP (by omega) .nil (by simp [rowsOfV]) (by omega) oR (by omega) (by omega) (by simp [rowsOfV]) rfl
      (fun i hi3 => by
        rcases (show i = 0 ∨ i = 1 ∨ i = 2 by omega) with rfl | rfl | rfl
        · exact ⟨_, rfl, b9H, fun z hz => ⟨by have := r9 z hz; omega, by simp [rowsOfV]⟩⟩
        · exact ⟨_, rfl, biH, fun z hz => ⟨by have := ri z hz; have := F1.1; omega, by simp [rowsOfV]⟩⟩
        · refine ⟨_, rfl, by_row (k := .rw) (by omega) oQ (Nat.le_refl _) rfl, fun z hz => ?_⟩
          simp [rowsOfV] at hz
          subst hz
          exact ⟨by omega, by simp [rowsOfV]⟩) (by rw [cat3]; simp; omega) (by decide)
    rw [cat3, List.nil_append] at hput
    refine R_fn ?_ hput ?_
    · rfl
    intro v2 h2 ⟨v3, o3, own3, hp3, n3, x3, y3⟩
    obtain ⟨a3, c3, hv3⟩ := sl_shape own3.sl
    have F2 : Fr h.nx h h2 := FH.trans ⟨n3, fun z hz => x3 z (by omega) (by omega) (by simp [rowsOfV])⟩
    have k2 : h2.obj h.nx = some (.row .rw 1 (b8 key)) := by rw [x3 _ (by omega) (by omega) (by simp [rowsOfV]), xH _ (by omega)]; exact O0_0
    have own82 : OwB (h.nx + 1) h2 (e1 8) (expO key info j) := own8H.keep n3 (fun r hr => x3 r (by have := (own8.rows r hr).2; omega) (by have := (own8.rows r hr).2; omega) (by simp [rowsOfV]))
    have bk : By h2 (.slice (some ⟨h.nx, 0, none⟩) 32 32) key := by_row (k := .rw) (by omega) k2 (Nat.le_refl _) hk
    repeat (first
      | refine R_seq ?_ | refine R_region ?_ | refine R_nil ?_ | refine Q_seq ?_ | refine Q_norm ?_ | refine Q_seqr ?_ | refine Q_seqx ?_ | refine Q_bl ?_ | refine Q_blr ?_ | refine Q_blx ?_ | refine Q_blo rfl ?_ | refine R_block ?_ | refine R_skip ?_ | refine R_exit ?_ | refine R_ret ?_ | refine I_true ?_ | refine I_false ?_ | refine N_exit ?_ | refine N_ret ?_
      | (refine R_draw (by kernel_rfl) ?_)
      | ((first | apply R_op | apply R_op0)
         · (first | (simp (maxDischargeDepth := 9) only [RA, Nat.reduceEqDiff, Nat.reduceLT, Nat.reduceLeDiff, Nat.reduceAdd, Nat.reduceSub, Nat.reduceMul, Nat.reduceDiv, Nat.reduceMod, Nat.reducePow, Nat.reduceBEq, Nat.reduceGT, reduceIte, o3, K0_3, T1, T3, T5, T30, T38, T120, T124, T134, cvi_8 Try.underlying3 Try.underlying5, K0_1, K0_2, K0_3, O0_0] <;> rfl) | ((repeat (first | (simp (maxDischargeDepth := 9) only [RA, Nat.reduceEqDiff, Nat.reduceLT, Nat.reduceLeDiff, Nat.reduceAdd, Nat.reduceSub, Nat.reduceMul, Nat.reduceDiv, Nat.reduceMod, Nat.reducePow, Nat.reduceBEq, Nat.reduceGT, reduceIte, o3, K0_3, T1, T3, T5, T30, T38, T120, T124, T134, cvi_8 Try.underlying3 Try.underlying5, K0_1, K0_2, K0_3, O0_0]; done) | simp (maxDischargeDepth := 9) only [RA, Nat.reduceEqDiff, Nat.reduceLT, Nat.reduceLeDiff, Nat.reduceAdd, Nat.reduceSub, Nat.reduceMul, Nat.reduceDiv, Nat.reduceMod, Nat.reducePow, Nat.reduceBEq, Nat.reduceGT, reduceIte, o3, K0_3, T1, T3, T5, T30, T38, T120, T124, T134, cvi_8 Try.underlying3 Try.underlying5, K0_1, K0_2, K0_3, O0_0] | simp (disch := first | assumption | omega) only [RV, o3, K0_3, T1, T3, T5, T30, T38, T120, T124, T134, cvi_8 Try.underlying3 Try.underlying5, K0_1, K0_2, K0_3, O0_0])) <;> rfl)))
      | (apply R_cond
         · (simp only [RE, Nat.reduceEqDiff, Nat.reduceLT, Nat.reduceLeDiff, Nat.reduceBEq, reduceIte, o3, K0_3, T1, T3, T5, T30, T38, T120, T124, T134, cvi_8 Try.underlying3 Try.underlying5, K0_1, K0_2, K0_3, O0_0] <;> rfl))
      | (apply R_grd
         · (simp only [yieldedA, RY, Nat.reduceEqDiff, reduceIte, o3, K0_3, T1, T3, T5, T30, T38, T120, T124, T134, cvi_8 Try.underlying3 Try.underlying5, K0_1, K0_2, K0_3, O0_0] <;> rfl)))
    refine R_fn ?_ (hmac68 q h2 (.slice (some ⟨h.nx, 0, none⟩) 32 32) v3 key _ bk own3.sl (by omega) (by simp; omega)) ?_
    · rfl
    intro v4 h4 ⟨hv4, F4⟩
    subst hv4
    have n4 := F4.1
    rw [← expT_succ]
    have htl1 := expT_length key info j
    have hp8 := fun (H : Heap) (p : Nat) => puts8 (h := H) (b := p) (es := 1) htl1 (List.length_replicate (n := 32) (a := 0#8))
    have hs1 := expO_succ key info j
    have own84 : OwB (h.nx + 1) h4 (e1 8) (expO key info j) := own82.keep n4 (fun r hr => F4.2 r (own82.rows r hr).2)
    have k4 : h4.obj h.nx = some (.row .rw 1 (b8 key)) := by rw [F4.2 _ (by omega)]; exact k2
    have r84 := own84.rows
    generalize expT key info (j + 1) = T at htl1 hp8 hs1
    repeat (first
      | refine R_seq ?_ | refine R_region ?_ | refine R_nil ?_ | refine Q_seq ?_ | refine Q_norm ?_ | refine Q_seqr ?_ | refine Q_seqx ?_ | refine Q_bl ?_ | refine Q_blr ?_ | refine Q_blx ?_ | refine Q_blo rfl ?_ | refine R_block ?_ | refine R_skip ?_ | refine R_exit ?_ | refine R_ret ?_ | refine I_true ?_ | refine I_false ?_ | refine N_exit ?_ | refine N_ret ?_
      | (refine R_draw (by kernel_rfl) ?_)
      | ((first | apply R_op | apply R_op0)
         · (first | (simp (maxDischargeDepth := 9) only [RA, Nat.reduceEqDiff, Nat.reduceLT, Nat.reduceLeDiff, Nat.reduceAdd, Nat.reduceSub, Nat.reduceMul, Nat.reduceDiv, Nat.reduceMod, Nat.reducePow, Nat.reduceBEq, Nat.reduceGT, reduceIte, hp8, rep8, T1, T3, T5, T30, T38, T120, T124, T134, cvi_8 Try.underlying3 Try.underlying5, K0_1, K0_2, K0_3, O0_0] <;> rfl) | ((repeat (first | (simp (maxDischargeDepth := 9) only [RA, Nat.reduceEqDiff, Nat.reduceLT, Nat.reduceLeDiff, Nat.reduceAdd, Nat.reduceSub, Nat.reduceMul, Nat.reduceDiv, Nat.reduceMod, Nat.reducePow, Nat.reduceBEq, Nat.reduceGT, reduceIte, hp8, rep8, T1, T3, T5, T30, T38, T120, T124, T134, cvi_8 Try.underlying3 Try.underlying5, K0_1, K0_2, K0_3, O0_0]; done) | simp (maxDischargeDepth := 9) only [RA, Nat.reduceEqDiff, Nat.reduceLT, Nat.reduceLeDiff, Nat.reduceAdd, Nat.reduceSub, Nat.reduceMul, Nat.reduceDiv, Nat.reduceMod, Nat.reducePow, Nat.reduceBEq, Nat.reduceGT, reduceIte, hp8, rep8, T1, T3, T5, T30, T38, T120, T124, T134, cvi_8 Try.underlying3 Try.underlying5, K0_1, K0_2, K0_3, O0_0] | simp (disch := first | assumption | omega) only [RV, hp8, rep8, T1, T3, T5, T30, T38, T120, T124, T134, cvi_8 Try.underlying3 Try.underlying5, K0_1, K0_2, K0_3, O0_0])) <;> rfl)))
      | (apply R_cond
         · (simp only [RE, Nat.reduceEqDiff, Nat.reduceLT, Nat.reduceLeDiff, Nat.reduceBEq, reduceIte, hp8, rep8, T1, T3, T5, T30, T38, T120, T124, T134, cvi_8 Try.underlying3 Try.underlying5, K0_1, K0_2, K0_3, O0_0] <;> rfl))
      | (apply R_grd
         · (simp only [yieldedA, RY, Nat.reduceEqDiff, reduceIte, hp8, rep8, T1, T3, T5, T30, T38, T120, T124, T134, cvi_8 Try.underlying3 Try.underlying5, K0_1, K0_2, K0_3, O0_0] <;> rfl)))
    obtain ⟨H, hH⟩ : ∃ H, H = (newRowH h4 .rw 1 (b8 (List.replicate 32 0#8))).put h4.nx (some (AObj.row .rw 1 (b8 T))) := ⟨_, rfl⟩
    rw [← hH]
    have oT : H.obj h4.nx = some (.row .rw 1 (b8 T)) := by rw [hH]; simp [RH]
    have nH4 : H.nx = h4.nx + 1 := by rw [hH]; simp [RH]
    have FHH : Fr h4.nx h4 H := by rw [hH]; (repeat (first | assumption | exact Fr.refl _ _ | refine Fr.new ?_ ?_ _ _ _ | refine Fr.put ?_ ?_ _ | omega | (simp only [RH]; omega)))
    clear hH
    have bT : By H (.slice (some ⟨h4.nx, 0, none⟩) 32 32) T := by_row (k := .rw) (by omega) oT (Nat.le_refl _) htl1
    have own8H : OwB (h.nx + 1) H (e1 8) (expO key info j) := own84.keep (by omega) (fun r hr => FHH.2 r (r84 r hr).2)
    refine R_app E38 Try.underlying38 (v := e1 8) (w := .slice (some ⟨h4.nx, 0, none⟩) 32 32) (lo := h.nx + 1) (xs := expO key info j) (ys := T) ?_ ?_ own8H bT (by omega) (by rw [hol, htl1]; omega) ?_
    · first | rfl | (first | rw [ev_tmp] | rw [ev_const] | skip) <;> simp only [upd_apply, Nat.reduceEqDiff, if_true, if_false, reduceIte, lit_iv, lit_w8, K0_1, K0_2, K0_3, O0_0]
    · first | rfl | (first | rw [ev_tmp] | rw [ev_const] | skip) <;> simp only [upd_apply, Nat.reduceEqDiff, if_true, if_false, reduceIte, lit_iv, lit_w8, K0_1, K0_2, K0_3, O0_0]
    intro v5 h5 own5 wt5
    rw [← hs1] at own5
    have n5 := wt5.nx
    have nr : h4.nx ∉ rowsOfV (e1 8) := fun hr => by have := (r84 _ hr).2; omega
    have oT5 : h5.obj h4.nx = some (.row .rw 1 (b8 T)) := by rw [wt5.rest _ (by omega) nr]; exact oT
    have k5 : h5.obj h.nx = some (.row .rw 1 (b8 key)) := by rw [wt5.rest _ (by omega) (fun hr => by have := (r84 _ hr).1; omega), FHH.2 _ (by omega)]; exact k4
    have F5 : Fr h.nx h h5 := F2.trans ((F4.le (by omega)).trans ((FHH.le (by omega)).trans (wt5.fr (by omega) fun r hr => by have := (r84 _ hr).1; omega)))
    repeat (first
      | refine R_seq ?_ | refine R_region ?_ | refine R_nil ?_ | refine Q_seq ?_ | refine Q_norm ?_ | refine Q_seqr ?_ | refine Q_seqx ?_ | refine Q_bl ?_ | refine Q_blr ?_ | refine Q_blx ?_ | refine Q_blo rfl ?_ | refine R_block ?_ | refine R_skip ?_ | refine R_exit ?_ | refine R_ret ?_ | refine I_true ?_ | refine I_false ?_ | refine N_exit ?_ | refine N_ret ?_
      | (refine R_draw (by kernel_rfl) ?_)
      | ((first | apply R_op | apply R_op0)
         · (first | (simp (maxDischargeDepth := 9) only [RA, Nat.reduceEqDiff, Nat.reduceLT, Nat.reduceLeDiff, Nat.reduceAdd, Nat.reduceSub, Nat.reduceMul, Nat.reduceDiv, Nat.reduceMod, Nat.reducePow, Nat.reduceBEq, Nat.reduceGT, reduceIte, j10, T1, T3, T5, T30, T38, T120, T124, T134, cvi_8 Try.underlying3 Try.underlying5, K0_1, K0_2, K0_3, O0_0] <;> rfl) | ((repeat (first | (simp (maxDischargeDepth := 9) only [RA, Nat.reduceEqDiff, Nat.reduceLT, Nat.reduceLeDiff, Nat.reduceAdd, Nat.reduceSub, Nat.reduceMul, Nat.reduceDiv, Nat.reduceMod, Nat.reducePow, Nat.reduceBEq, Nat.reduceGT, reduceIte, j10, T1, T3, T5, T30, T38, T120, T124, T134, cvi_8 Try.underlying3 Try.underlying5, K0_1, K0_2, K0_3, O0_0]; done) | simp (maxDischargeDepth := 9) only [RA, Nat.reduceEqDiff, Nat.reduceLT, Nat.reduceLeDiff, Nat.reduceAdd, Nat.reduceSub, Nat.reduceMul, Nat.reduceDiv, Nat.reduceMod, Nat.reducePow, Nat.reduceBEq, Nat.reduceGT, reduceIte, j10, T1, T3, T5, T30, T38, T120, T124, T134, cvi_8 Try.underlying3 Try.underlying5, K0_1, K0_2, K0_3, O0_0] | simp (disch := first | assumption | omega) only [RV, j10, T1, T3, T5, T30, T38, T120, T124, T134, cvi_8 Try.underlying3 Try.underlying5, K0_1, K0_2, K0_3, O0_0])) <;> rfl)))
      | (apply R_cond
         · (simp only [RE, Nat.reduceEqDiff, Nat.reduceLT, Nat.reduceLeDiff, Nat.reduceBEq, reduceIte, j10, T1, T3, T5, T30, T38, T120, T124, T134, cvi_8 Try.underlying3 Try.underlying5, K0_1, K0_2, K0_3, O0_0] <;> rfl))
      | (apply R_grd
         · (simp only [yieldedA, RY, Nat.reduceEqDiff, reduceIte, j10, T1, T3, T5, T30, T38, T120, T124, T134, cvi_8 Try.underlying3 Try.underlying5, K0_1, K0_2, K0_3, O0_0] <;> rfl)))
    refine ⟨rfl, by first | rfl | simp only [List.map_cons, List.map_nil, RH, Nat.reduceAdd, Nat.reduceEqDiff, reduceIte, k5, T1, T3, T5, T30, T38, T120, T124, T134, cvi_8 Try.underlying3 Try.underlying5, K0_1, K0_2, K0_3, O0_0], by first | rfl | simp only [List.map_cons, List.map_nil, RH, Nat.reduceAdd, Nat.reduceEqDiff, reduceIte, k5, T1, T3, T5, T30, T38, T120, T124, T134, cvi_8 Try.underlying3 Try.underlying5, K0_1, K0_2, K0_3, O0_0], by first | (simp only [RH, k5, T1, T3, T5, T30, T38, T120, T124, T134, cvi_8 Try.underlying3 Try.underlying5, K0_1, K0_2, K0_3, O0_0]; done) | ((try simp only [RH, k5, T1, T3, T5, T30, T38, T120, T124, T134, cvi_8 Try.underlying3 Try.underlying5, K0_1, K0_2, K0_3, O0_0]); omega), ?_⟩
    refine ⟨by (try simp only [List.map_cons, List.map_nil, RH, Nat.reduceAdd, Nat.reduceEqDiff, reduceIte, ev_tmp, ev_const, lit_iv, lit_w8, lit_w32, lit_w64, envOf0, envOf1, envOf2, envOf3, envOf4, envOf5, T1, T3, T5, T30, T38, T120, T124, T134, cvi_8 Try.underlying3 Try.underlying5, K0_1, K0_2, K0_3, O0_0]), ?_, ?_, F5⟩
    · (try simp only [List.map_cons, List.map_nil, RH, Nat.reduceAdd, Nat.reduceEqDiff, reduceIte, ev_tmp, ev_const, lit_iv, lit_w8, lit_w32, lit_w64, envOf0, envOf1, envOf2, envOf3, envOf4, envOf5, T1, T3, T5, T30, T38, T120, T124, T134, cvi_8 Try.underlying3 Try.underlying5, K0_1, K0_2, K0_3, O0_0])
      exact own5
    · (try simp only [List.map_cons, List.map_nil, RH, Nat.reduceAdd, Nat.reduceEqDiff, reduceIte, ev_tmp, ev_const, lit_iv, lit_w8, lit_w32, lit_w64, envOf0, envOf1, envOf2, envOf3, envOf4, envOf5, T1, T3, T5, T30, T38, T120, T124, T134, cvi_8 Try.underlying3 Try.underlying5, K0_1, K0_2, K0_3, O0_0])
      exact by_row (k := .rw) (by omega) oT5 (Nat.le_refl _) htl1
  · intro e1 h1 hK hO hN ⟨j10, own8, b9, F1⟩
    simp only [List.map_cons, List.map_nil, List.cons.injEq, and_true, RH, Nat.reduceAdd, Nat.reduceEqDiff, reduceIte, envOf0, envOf1, envOf2, envOf3, envOf4, envOf5] at hK
    obtain ⟨K0_1, K0_2, K0_3⟩ := hK
    simp only [List.map_cons, List.map_nil, List.cons.injEq, and_true, RH, Nat.reduceAdd, Nat.reduceEqDiff, reduceIte, envOf0, envOf1, envOf2, envOf3, envOf4, envOf5] at hO
    have O0_0 := hO
    try simp only [RH] at hN
    have hol := expO_length key info ((n + 31) / 32)
    have hnr : ¬ 32 * ((n + 31) / 32) < n := by omega
    have hnr2 : n ≤ 32 * ((n + 31) / 32) := by omega
    have s8 := own8.sl
    rw [hol] at s8
    repeat (first
      | refine R_seq ?_ | refine R_region ?_ | refine R_nil ?_ | refine Q_seq ?_ | refine Q_norm ?_ | refine Q_seqr ?_ | refine Q_seqx ?_ | refine Q_bl ?_ | refine Q_blr ?_ | refine Q_blx ?_ | refine Q_blo rfl ?_ | refine R_block ?_ | refine R_skip ?_ | refine R_exit ?_ | refine R_ret ?_ | refine I_true ?_ | refine I_false ?_ | refine N_exit ?_ | refine N_ret ?_
      | (refine R_draw (by kernel_rfl) ?_)
      | ((first | apply R_op | apply R_op0)
         · (first | (simp (maxDischargeDepth := 9) only [RA, Nat.reduceEqDiff, Nat.reduceLT, Nat.reduceLeDiff, Nat.reduceAdd, Nat.reduceSub, Nat.reduceMul, Nat.reduceDiv, Nat.reduceMod, Nat.reducePow, Nat.reduceBEq, Nat.reduceGT, reduceIte, j10, S38len s8, S38hm s8, hnr, hnr2, fr_refl, Nat.le_refl, T1, T3, T5, T30, T38, T120, T124, T134, cvi_8 Try.underlying3 Try.underlying5, K0_1, K0_2, K0_3, O0_0] <;> rfl) | ((repeat (first | (simp (maxDischargeDepth := 9) only [RA, Nat.reduceEqDiff, Nat.reduceLT, Nat.reduceLeDiff, Nat.reduceAdd, Nat.reduceSub, Nat.reduceMul, Nat.reduceDiv, Nat.reduceMod, Nat.reducePow, Nat.reduceBEq, Nat.reduceGT, reduceIte, j10, S38len s8, S38hm s8, hnr, hnr2, fr_refl, Nat.le_refl, T1, T3, T5, T30, T38, T120, T124, T134, cvi_8 Try.underlying3 Try.underlying5, K0_1, K0_2, K0_3, O0_0]; done) | simp (maxDischargeDepth := 9) only [RA, Nat.reduceEqDiff, Nat.reduceLT, Nat.reduceLeDiff, Nat.reduceAdd, Nat.reduceSub, Nat.reduceMul, Nat.reduceDiv, Nat.reduceMod, Nat.reducePow, Nat.reduceBEq, Nat.reduceGT, reduceIte, j10, S38len s8, S38hm s8, hnr, hnr2, fr_refl, Nat.le_refl, T1, T3, T5, T30, T38, T120, T124, T134, cvi_8 Try.underlying3 Try.underlying5, K0_1, K0_2, K0_3, O0_0] | simp (disch := first | assumption | omega) only [RV, j10, S38len s8, S38hm s8, hnr, hnr2, fr_refl, Nat.le_refl, T1, T3, T5, T30, T38, T120, T124, T134, cvi_8 Try.underlying3 Try.underlying5, K0_1, K0_2, K0_3, O0_0])) <;> rfl)))
      | (apply R_cond
         · (simp only [RE, Nat.reduceEqDiff, Nat.reduceLT, Nat.reduceLeDiff, Nat.reduceBEq, reduceIte, j10, S38len s8, S38hm s8, hnr, hnr2, fr_refl, Nat.le_refl, T1, T3, T5, T30, T38, T120, T124, T134, cvi_8 Try.underlying3 Try.underlying5, K0_1, K0_2, K0_3, O0_0] <;> rfl))
      | (apply R_grd
         · (simp only [yieldedA, RY, Nat.reduceEqDiff, reduceIte, j10, S38len s8, S38hm s8, hnr, hnr2, fr_refl, Nat.le_refl, T1, T3, T5, T30, T38, T120, T124, T134, cvi_8 Try.underlying3 Try.underlying5, K0_1, K0_2, K0_3, O0_0] <;> rfl)))
    refine ⟨.inr rfl, _, rfl, ⟨subS 1 0 n (some n) (e1 8), ?_, ?_⟩, F1⟩
    · (try simp only [List.map_cons, List.map_nil, RH, Nat.reduceAdd, Nat.reduceEqDiff, reduceIte, ev_tmp, ev_const, lit_iv, lit_w8, lit_w32, lit_w64, envOf0, envOf1, envOf2, envOf3, envOf4, envOf5, packR, T1, T3, T5, T30, T38, T120, T124, T134, cvi_8 Try.underlying3 Try.underlying5, K0_1, K0_2, K0_3, O0_0])
    · have own8' : By h1 (e1 8) _ := own8.sl
      exact own8'.subh (by rw [hol]; omega) (fun m hm => by cases hm; exact Nat.le_refl _)
end Go.Proofs.Ytfehhihllenjiaa
