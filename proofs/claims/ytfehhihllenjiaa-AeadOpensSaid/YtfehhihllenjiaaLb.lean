/- Sealed bytes: what the tag is of. -/
import Derived.Test.YtfehhihllenjiaaLa
import Derived.Test.YtfehhihllenjiaaKj
import Derived.Test.YtfehhihllenjiaaGb
set_option linter.all false
namespace Go.Proofs.Ytfehhihllenjiaa
open Go.Proofs
theorem nv_and15 {P : Program} {t : TypeId} {l : Bool} (n : Nat) (hn : n < 9223372036854775808) : evBin P .and t l (nv n) (iv 15) = some (iv (padK16 n)) := by
  refine (bin_int (by decide)).trans ?_
  have e1 : (BitVec.ofInt 64 (-(n : Int)) &&& BitVec.ofInt 64 15).toNat = padK16 n := by
    rw [BitVec.toNat_and, show (BitVec.ofInt 64 15).toNat = 2 ^ 4 - 1 from rfl, Nat.and_two_pow_sub_one_eq_mod, BitVec.toNat_ofInt]
    unfold padK16
    omega
  show some (Value.int .i64 (IntKind.i64.wrap ((BitVec.ofInt 64 (-(n : Int)) &&& BitVec.ofInt 64 15).toNat : Int))) = _
  rw [e1, i64_nat _ (by unfold padK16; omega)]
  rfl
theorem padZ_join (a b : List (BitVec 8)) : (padZ a ++ b) ++ List.replicate (padK16 (padZ a ++ b).length) 0#8 = padZ a ++ padZ b := by
  have h : padK16 (padZ a ++ b).length = padK16 b.length := by
    have := padZ_mod a
    rw [List.length_append]
    unfold padK16
    omega
  rw [h, List.append_assoc]; rfl
theorem padZ_le (a : List (BitVec 8)) : (padZ a).length ≤ a.length + 15 := by rw [padZ_length]; unfold padK16; omega
theorem padK16_le (n : Nat) : padK16 n ≤ 15 := by unfold padK16; omega
theorem leB8_set (V i : Nat) (hi : i < 8) (hV : V ≤ 4294967296) : (leB V i ++ List.replicate (8 - i) 0#8).set i ((BitVec.ofNat 64 V >>> (8 * i)).setWidth 8) = leB V (i + 1) ++ List.replicate (8 - (i + 1)) 0#8 := by
  have e : (BitVec.ofNat 64 V >>> (8 * i)).setWidth 8 = BitVec.ofNat 8 (V / 256 ^ i) := by
    apply BitVec.eq_of_toNat_eq
    rw [BitVec.toNat_setWidth, shr_toNat, BitVec.toNat_ofNat, BitVec.toNat_ofNat, Nat.pow_mul, Nat.mod_eq_of_lt (show V < 2 ^ 64 by omega)]
  rw [e, List.set_append_right _ _ (by rw [leB_length]; exact Nat.le_refl _), leB_length, Nat.sub_self, show 8 - i = (8 - (i + 1)) + 1 by omega, List.replicate_succ, List.set_cons_zero, leB_snoc, List.append_assoc]
  rfl
attribute [local irreducible] evOps iter evD evF evC evLoad evStore evAlloc evIndexAddr evIndex evLenB evBox evBin evUn evConvert evExtract evSlice evAppend evCopy evNil evBuild evMakeSlice evBuildSlice evBuiltin Program.underlying
attribute [local irreducible] leB padZ framedS
theorem inl113 : inlOf Try.prog 113 = true := by kernel_rfl
theorem iso113 : isoOf Try.prog 113 = false := by kernel_rfl
set_option maxRecDepth 20000 in
set_option maxHeartbeats 8000000 in
theorem length113 (q : Nat) (h : Heap) (v : Value) (b : List (BitVec 8)) (hb : By h v b) (hl : b.length ≤ 4294967296) :
    ∃ v' h', fcall Try.prog (q + 1) (.func (.func 113) #[] #[]) [v] h = some (.ok v', h') ∧ v' = .slice (some ⟨h.nx, 0, none⟩) 8 8 ∧ By h' v' (leB b.length 8) ∧ Fr h.nx h h' := by
  rw [fcall_inl inl113 iso113, evF_eq Try.func113 rfl]
  apply evEnd_of_W
  simp only [Try.f113]
  repeat (first
    | refine R_seq ?_ | refine R_region ?_ | refine R_nil ?_ | refine Q_seq ?_ | refine Q_norm ?_ | refine Q_seqr ?_ | refine Q_seqx ?_ | refine Q_bl ?_ | refine Q_blr ?_ | refine Q_blx ?_ | refine Q_blo rfl ?_ | refine R_block ?_ | refine R_skip ?_ | refine R_exit ?_ | refine R_ret ?_ | refine I_true ?_ | refine I_false ?_ | refine N_exit ?_ | refine N_ret ?_
    | ((first | apply R_op | apply R_op0)
       · ((repeat (first | simp (maxDischargeDepth := 9) only [RA, Nat.reduceEqDiff, Nat.reduceLT, Nat.reduceLeDiff, Nat.reduceAdd, Nat.reduceSub, Nat.reduceMul, Nat.reduceDiv, Nat.reduceMod, Nat.reducePow, Nat.reduceBEq, Nat.reduceGT, reduceIte, T3, T5, T38, T93, T135, cvi_64 Try.underlying3 Try.underlying93, cv64_8 Try.underlying93 Try.underlying5] | simp (disch := first | assumption | omega) only [RV])) <;> rfl))
    | (apply R_cond
       · (simp only [RE, Nat.reduceEqDiff, Nat.reduceLT, Nat.reduceLeDiff, Nat.reduceBEq, reduceIte] <;> rfl))
    | (apply R_grd
       · (simp only [yieldedA, RY, Nat.reduceEqDiff, reduceIte] <;> rfl)))
  refine W_loopK [0, 3] [] (fun i e1 h1 => e1 5 = iv i ∧ h1.obj h.nx = some (.row .rw 1 (b8 (leB b.length i ++ List.replicate (8 - i) 0#8))) ∧ Fr h.nx h h1) 8 (by decide) ?_ ?_ ?_
  · refine ⟨by (try simp only [List.map_cons, List.map_nil, RH, Nat.reduceAdd, Nat.reduceEqDiff, reduceIte, ev_tmp, ev_const, lit_iv, lit_w8, lit_w32, lit_w64, envOf0, envOf1, envOf2, envOf3, envOf4, envOf5, T3, T5, T38, T93, T135, cvi_64 Try.underlying3 Try.underlying93, cv64_8 Try.underlying93 Try.underlying5]), ?_, by (repeat (first | assumption | exact Fr.refl _ _ | refine Fr.new ?_ ?_ _ _ _ | refine Fr.put ?_ ?_ _ | omega | (simp only [RH]; omega)))⟩
    simp only [RH, rep8]; unfold leB; rfl
  · intro i hi e1 h1 hK hO hN ⟨j5, o1, F1⟩
    simp only [List.map_cons, List.map_nil, List.cons.injEq, and_true, RH, Nat.reduceAdd, Nat.reduceEqDiff, reduceIte, envOf0, envOf1, envOf2, envOf3, envOf4, envOf5] at hK
    obtain ⟨K0_0, K0_3⟩ := hK
    try simp only [RH] at hN
    have b1 := hb.fr0 F1
    have hll : (leB b.length i ++ List.replicate (8 - i) 0#8).length = 8 := by rw [List.length_append, leB_length, List.length_replicate]; omega
    repeat (first
      | refine R_seq ?_ | refine R_region ?_ | refine R_nil ?_ | refine Q_seq ?_ | refine Q_norm ?_ | refine Q_seqr ?_ | refine Q_seqx ?_ | refine Q_bl ?_ | refine Q_blr ?_ | refine Q_blx ?_ | refine Q_blo rfl ?_ | refine R_block ?_ | refine R_skip ?_ | refine R_exit ?_ | refine R_ret ?_ | refine I_true ?_ | refine I_false ?_ | refine N_exit ?_ | refine N_ret ?_
      | ((first | apply R_op | apply R_op0)
         · ((repeat (first | simp (maxDischargeDepth := 9) only [RA, Nat.reduceEqDiff, Nat.reduceLT, Nat.reduceLeDiff, Nat.reduceAdd, Nat.reduceSub, Nat.reduceMul, Nat.reduceDiv, Nat.reduceMod, Nat.reducePow, Nat.reduceBEq, Nat.reduceGT, reduceIte, j5, hi, S38len b1, o1, hll, T3, T5, T38, T93, T135, cvi_64 Try.underlying3 Try.underlying93, cv64_8 Try.underlying93 Try.underlying5, K0_0, K0_3] | simp (disch := first | assumption | omega) only [RV, j5, hi, S38len b1, o1, hll, K0_0, K0_3])) <;> rfl))
      | (apply R_cond
         · (simp only [RE, Nat.reduceEqDiff, Nat.reduceLT, Nat.reduceLeDiff, Nat.reduceBEq, reduceIte] <;> rfl))
      | (apply R_grd
         · (simp only [yieldedA, RY, Nat.reduceEqDiff, reduceIte] <;> rfl)))
    rw [leB8_set _ _ hi hl]
    refine ⟨rfl, by first | rfl | simp only [List.map_cons, List.map_nil, RH, Nat.reduceAdd, Nat.reduceEqDiff, reduceIte, T3, T5, T38, T93, T135, cvi_64 Try.underlying3 Try.underlying93, cv64_8 Try.underlying93 Try.underlying5, K0_0, K0_3], by first | rfl | simp only [List.map_cons, List.map_nil, RH, Nat.reduceAdd, Nat.reduceEqDiff, reduceIte, T3, T5, T38, T93, T135, cvi_64 Try.underlying3 Try.underlying93, cv64_8 Try.underlying93 Try.underlying5, K0_0, K0_3], by first | (simp only [RH, T3, T5, T38, T93, T135, cvi_64 Try.underlying3 Try.underlying93, cv64_8 Try.underlying93 Try.underlying5, K0_0, K0_3]; done) | ((try simp only [RH, T3, T5, T38, T93, T135, cvi_64 Try.underlying3 Try.underlying93, cv64_8 Try.underlying93 Try.underlying5, K0_0, K0_3]); omega), ?_⟩
    exact ⟨by (try simp only [List.map_cons, List.map_nil, RH, Nat.reduceAdd, Nat.reduceEqDiff, reduceIte, ev_tmp, ev_const, lit_iv, lit_w8, lit_w32, lit_w64, envOf0, envOf1, envOf2, envOf3, envOf4, envOf5, T3, T5, T38, T93, T135, cvi_64 Try.underlying3 Try.underlying93, cv64_8 Try.underlying93 Try.underlying5, K0_0, K0_3]), by simp only [RH], F1.put (Nat.le_refl _) _⟩
  · intro e1 h1 hK hO hN ⟨j5, o1, F1⟩
    simp only [List.map_cons, List.map_nil, List.cons.injEq, and_true, RH, Nat.reduceAdd, Nat.reduceEqDiff, reduceIte, envOf0, envOf1, envOf2, envOf3, envOf4, envOf5] at hK
    obtain ⟨K0_0, K0_3⟩ := hK
    try simp only [RH] at hN
    repeat (first
      | refine R_seq ?_ | refine R_region ?_ | refine R_nil ?_ | refine Q_seq ?_ | refine Q_norm ?_ | refine Q_seqr ?_ | refine Q_seqx ?_ | refine Q_bl ?_ | refine Q_blr ?_ | refine Q_blx ?_ | refine Q_blo rfl ?_ | refine R_block ?_ | refine R_skip ?_ | refine R_exit ?_ | refine R_ret ?_ | refine I_true ?_ | refine I_false ?_ | refine N_exit ?_ | refine N_ret ?_
      | ((first | apply R_op | apply R_op0)
         · ((repeat (first | simp (maxDischargeDepth := 9) only [RA, Nat.reduceEqDiff, Nat.reduceLT, Nat.reduceLeDiff, Nat.reduceAdd, Nat.reduceSub, Nat.reduceMul, Nat.reduceDiv, Nat.reduceMod, Nat.reducePow, Nat.reduceBEq, Nat.reduceGT, reduceIte, j5, T3, T5, T38, T93, T135, cvi_64 Try.underlying3 Try.underlying93, cv64_8 Try.underlying93 Try.underlying5, K0_0, K0_3] | simp (disch := first | assumption | omega) only [RV, j5, K0_0, K0_3])) <;> rfl))
      | (apply R_cond
         · (simp only [RE, Nat.reduceEqDiff, Nat.reduceLT, Nat.reduceLeDiff, Nat.reduceBEq, reduceIte] <;> rfl))
      | (apply R_grd
         · (simp only [yieldedA, RY, Nat.reduceEqDiff, reduceIte] <;> rfl)))
    refine ⟨.inr rfl, _, rfl, ?_, ?_, F1⟩
    · (try simp only [List.map_cons, List.map_nil, RH, Nat.reduceAdd, Nat.reduceEqDiff, reduceIte, ev_tmp, ev_const, lit_iv, lit_w8, lit_w32, lit_w64, envOf0, envOf1, envOf2, envOf3, envOf4, envOf5, packR, T3, T5, T38, T93, T135, cvi_64 Try.underlying3 Try.underlying93, cv64_8 Try.underlying93 Try.underlying5, K0_0, K0_3])
    · (try simp only [List.map_cons, List.map_nil, RH, Nat.reduceAdd, Nat.reduceEqDiff, reduceIte, ev_tmp, ev_const, lit_iv, lit_w8, lit_w32, lit_w64, envOf0, envOf1, envOf2, envOf3, envOf4, envOf5, packR, T3, T5, T38, T93, T135, cvi_64 Try.underlying3 Try.underlying93, cv64_8 Try.underlying93 Try.underlying5, K0_0, K0_3])
      rw [show List.replicate (8 - 8) 0#8 = [] from rfl, List.append_nil] at o1
      exact by_row (k := .rw) (by omega) o1 (Nat.le_refl _) (leB_length _ _)
theorem inl112 : inlOf Try.prog 112 = true := by kernel_rfl
theorem iso112 : isoOf Try.prog 112 = false := by kernel_rfl
set_option maxRecDepth 20000 in
set_option maxHeartbeats 8000000 in
theorem whole112 (q : Nat) (h : Heap) (p : Nat) (v w : Value) (a b : List (BitVec 8)) (hp : p < h.nx) (ho : h.obj p = some (.row .rw 1 [v, w])) (ha : By h v a) (hb : By h w b) (hal : a.length ≤ 1048576) (hbl : b.length ≤ 1048576) :
    ∃ v' h', fcall Try.prog (q + 1) (.func (.func 112) #[] #[]) [.slice (some ⟨p, 0, none⟩) 2 2] h = some (.ok v', h') ∧ OwB h.nx h' v' (padZ a ++ padZ b) ∧ Fr h.nx h h' := by
  rw [fcall_inl inl112 iso112, evF_eq Try.func112 rfl]
  apply evEnd_of_W
  simp only [Try.f112]
  have hpa := padZ_le a
  repeat (first
    | refine R_seq ?_ | refine R_region ?_ | refine R_nil ?_ | refine Q_seq ?_ | refine Q_norm ?_ | refine Q_seqr ?_ | refine Q_seqx ?_ | refine Q_bl ?_ | refine Q_blr ?_ | refine Q_blx ?_ | refine Q_blo rfl ?_ | refine R_block ?_ | refine R_skip ?_ | refine R_exit ?_ | refine R_ret ?_ | refine I_true ?_ | refine I_false ?_ | refine N_exit ?_ | refine N_ret ?_
    | ((first | apply R_op | apply R_op0)
       · ((repeat (first | simp (maxDischargeDepth := 9) only [RA, Nat.reduceEqDiff, Nat.reduceLT, Nat.reduceLeDiff, Nat.reduceAdd, Nat.reduceSub, Nat.reduceMul, Nat.reduceDiv, Nat.reduceMod, Nat.reducePow, Nat.reduceBEq, Nat.reduceGT, reduceIte, T3, T38, T134] | simp (disch := first | assumption | omega) only [RV])) <;> rfl))
    | (apply R_cond
       · (simp only [RE, Nat.reduceEqDiff, Nat.reduceLT, Nat.reduceLeDiff, Nat.reduceBEq, reduceIte] <;> rfl))
    | (apply R_grd
       · (simp only [yieldedA, RY, Nat.reduceEqDiff, reduceIte] <;> rfl)))
  refine W_loopK [6, 7] [] (fun j e1 h1 => e1 8 = iv j ∧ OwB h.nx h1 (e1 3) (if j = 0 then [] else if j = 1 then padZ a else padZ a ++ padZ b) ∧ Fr h.nx h h1) 2 (by decide) ?_ ?_ ?_
  · exact ⟨by (try simp only [List.map_cons, List.map_nil, RH, Nat.reduceAdd, Nat.reduceEqDiff, reduceIte, ev_tmp, ev_const, lit_iv, lit_w8, lit_w32, lit_w64, envOf0, envOf1, envOf2, envOf3, envOf4, envOf5, T3, T38, T134]), by (try simp only [List.map_cons, List.map_nil, RH, Nat.reduceAdd, Nat.reduceEqDiff, reduceIte, ev_tmp, ev_const, lit_iv, lit_w8, lit_w32, lit_w64, envOf0, envOf1, envOf2, envOf3, envOf4, envOf5, T3, T38, T134]); exact .nil, .refl _ _⟩
  · intro j hj e1 h1 hK hO hN ⟨j8, own1, F1⟩
    simp only [List.map_cons, List.map_nil, List.cons.injEq, and_true, RH, Nat.reduceAdd, Nat.reduceEqDiff, reduceIte, envOf0, envOf1, envOf2, envOf3, envOf4, envOf5] at hK
    obtain ⟨K0_6, K0_7⟩ := hK
    try simp only [RH] at hN
    have o1 := F1.2 p hp
    rw [ho] at o1
    have n1 := F1.1
    rcases (show j = 0 ∨ j = 1 by omega) with rfl | rfl
    · have own1 : OwB h.nx h1 (e1 3) [] := own1
      repeat (first
        | refine R_seq ?_ | refine R_region ?_ | refine R_nil ?_ | refine Q_seq ?_ | refine Q_norm ?_ | refine Q_seqr ?_ | refine Q_seqx ?_ | refine Q_bl ?_ | refine Q_blr ?_ | refine Q_blx ?_ | refine Q_blo rfl ?_ | refine R_block ?_ | refine R_skip ?_ | refine R_exit ?_ | refine R_ret ?_ | refine I_true ?_ | refine I_false ?_ | refine N_exit ?_ | refine N_ret ?_
        | ((first | apply R_op | apply R_op0)
           · ((repeat (first | simp (maxDischargeDepth := 9) only [RA, Nat.reduceEqDiff, Nat.reduceLT, Nat.reduceLeDiff, Nat.reduceAdd, Nat.reduceSub, Nat.reduceMul, Nat.reduceDiv, Nat.reduceMod, Nat.reducePow, Nat.reduceBEq, Nat.reduceGT, reduceIte, j8, o1, T3, T38, T134, K0_6, K0_7] | simp (disch := first | assumption | omega) only [RV, j8, o1, K0_6, K0_7])) <;> rfl))
        | (apply R_cond
           · (simp only [RE, Nat.reduceEqDiff, Nat.reduceLT, Nat.reduceLeDiff, Nat.reduceBEq, reduceIte] <;> rfl))
        | (apply R_grd
           · (simp only [yieldedA, RY, Nat.reduceEqDiff, reduceIte] <;> rfl)))
      refine R_app E38 Try.underlying38 (v := e1 3) (w := v) (lo := h.nx) (xs := []) (ys := a) ?_ ?_ own1 (ha.fr0 F1) n1 (by simp; omega) ?_
      · first | rfl | (first | rw [ev_tmp] | rw [ev_const] | skip) <;> simp only [upd_apply, Nat.reduceEqDiff, if_true, if_false, reduceIte, lit_iv, lit_w8, K0_6, K0_7]
      · first | rfl | (first | rw [ev_tmp] | rw [ev_const] | skip) <;> simp only [upd_apply, Nat.reduceEqDiff, if_true, if_false, reduceIte, lit_iv, lit_w8, K0_6, K0_7]
      intro v2 h2 own2 wt2
      rw [List.nil_append] at own2
      have n2 := wt2.nx
      have F2 := F1.trans (wt2.owFr n1 own1)
      repeat (first
        | refine R_seq ?_ | refine R_region ?_ | refine R_nil ?_ | refine Q_seq ?_ | refine Q_norm ?_ | refine Q_seqr ?_ | refine Q_seqx ?_ | refine Q_bl ?_ | refine Q_blr ?_ | refine Q_blx ?_ | refine Q_blo rfl ?_ | refine R_block ?_ | refine R_skip ?_ | refine R_exit ?_ | refine R_ret ?_ | refine I_true ?_ | refine I_false ?_ | refine N_exit ?_ | refine N_ret ?_
        | ((first | apply R_op | apply R_op0)
           · ((repeat (first | simp (maxDischargeDepth := 9) only [RA, Nat.reduceEqDiff, Nat.reduceLT, Nat.reduceLeDiff, Nat.reduceAdd, Nat.reduceSub, Nat.reduceMul, Nat.reduceDiv, Nat.reduceMod, Nat.reducePow, Nat.reduceBEq, Nat.reduceGT, reduceIte, S38len own2.sl, un_neg_iv a.length (by omega), nv_and15 a.length (by omega), T3, T38, T134, K0_6, K0_7] | simp (disch := first | assumption | omega) only [RV, S38len own2.sl, un_neg_iv a.length (by omega), nv_and15 a.length (by omega), K0_6, K0_7])) <;> rfl))
        | (apply R_cond
           · (simp only [RE, Nat.reduceEqDiff, Nat.reduceLT, Nat.reduceLeDiff, Nat.reduceBEq, reduceIte] <;> rfl))
        | (apply R_grd
           · (simp only [yieldedA, RY, Nat.reduceEqDiff, reduceIte] <;> rfl)))
      have hk := padK16_le a.length
      refine R_app0 E38 Try.underlying3 (v := v2) (m := padK16 a.length) (lo := h.nx) (xs := a) ?_ ?_ own2 (by omega) (by omega) (by omega) ?_
      · first | rfl | (first | rw [ev_tmp] | rw [ev_const] | skip) <;> simp only [upd_apply, Nat.reduceEqDiff, if_true, if_false, reduceIte, lit_iv, lit_w8, K0_6, K0_7]
      · first | rfl | (first | rw [ev_tmp] | rw [ev_const] | skip) <;> simp only [upd_apply, Nat.reduceEqDiff, if_true, if_false, reduceIte, lit_iv, lit_w8, K0_6, K0_7]
      intro v3 h3 own3 wt3
      have n3 := wt3.nx
      have F3 := F2.trans (wt3.owFr (by omega) own2)
      repeat (first
        | refine R_seq ?_ | refine R_region ?_ | refine R_nil ?_ | refine Q_seq ?_ | refine Q_norm ?_ | refine Q_seqr ?_ | refine Q_seqx ?_ | refine Q_bl ?_ | refine Q_blr ?_ | refine Q_blx ?_ | refine Q_blo rfl ?_ | refine R_block ?_ | refine R_skip ?_ | refine R_exit ?_ | refine R_ret ?_ | refine I_true ?_ | refine I_false ?_ | refine N_exit ?_ | refine N_ret ?_
        | ((first | apply R_op | apply R_op0)
           · ((repeat (first | simp (maxDischargeDepth := 9) only [RA, Nat.reduceEqDiff, Nat.reduceLT, Nat.reduceLeDiff, Nat.reduceAdd, Nat.reduceSub, Nat.reduceMul, Nat.reduceDiv, Nat.reduceMod, Nat.reducePow, Nat.reduceBEq, Nat.reduceGT, reduceIte, j8, T3, T38, T134, K0_6, K0_7] | simp (disch := first | assumption | omega) only [RV, j8, K0_6, K0_7])) <;> rfl))
        | (apply R_cond
           · (simp only [RE, Nat.reduceEqDiff, Nat.reduceLT, Nat.reduceLeDiff, Nat.reduceBEq, reduceIte] <;> rfl))
        | (apply R_grd
           · (simp only [yieldedA, RY, Nat.reduceEqDiff, reduceIte] <;> rfl)))
      refine ⟨rfl, by first | rfl | simp only [List.map_cons, List.map_nil, RH, Nat.reduceAdd, Nat.reduceEqDiff, reduceIte, T3, T38, T134, K0_6, K0_7], by first | rfl | simp only [List.map_cons, List.map_nil, RH, Nat.reduceAdd, Nat.reduceEqDiff, reduceIte, T3, T38, T134, K0_6, K0_7], by first | (simp only [RH, T3, T38, T134, K0_6, K0_7]; done) | ((try simp only [RH, T3, T38, T134, K0_6, K0_7]); omega), ?_⟩
      exact ⟨by (try simp only [List.map_cons, List.map_nil, RH, Nat.reduceAdd, Nat.reduceEqDiff, reduceIte, ev_tmp, ev_const, lit_iv, lit_w8, lit_w32, lit_w64, envOf0, envOf1, envOf2, envOf3, envOf4, envOf5, T3, T38, T134, K0_6, K0_7]), by (try simp only [List.map_cons, List.map_nil, RH, Nat.reduceAdd, Nat.reduceEqDiff, reduceIte, ev_tmp, ev_const, lit_iv, lit_w8, lit_w32, lit_w64, envOf0, envOf1, envOf2, envOf3, envOf4, envOf5, T3, T38, T134, K0_6, K0_7]); unfold padZ; exact own3, F3⟩
    · have own1 : OwB h.nx h1 (e1 3) (padZ a) := own1
      repeat (first
        | refine R_seq ?_ | refine R_region ?_ | refine R_nil ?_ | refine Q_seq ?_ | refine Q_norm ?_ | refine Q_seqr ?_ | refine Q_seqx ?_ | refine Q_bl ?_ | refine Q_blr ?_ | refine Q_blx ?_ | refine Q_blo rfl ?_ | refine R_block ?_ | refine R_skip ?_ | refine R_exit ?_ | refine R_ret ?_ | refine I_true ?_ | refine I_false ?_ | refine N_exit ?_ | refine N_ret ?_
        | ((first | apply R_op | apply R_op0)
           · ((repeat (first | simp (maxDischargeDepth := 9) only [RA, Nat.reduceEqDiff, Nat.reduceLT, Nat.reduceLeDiff, Nat.reduceAdd, Nat.reduceSub, Nat.reduceMul, Nat.reduceDiv, Nat.reduceMod, Nat.reducePow, Nat.reduceBEq, Nat.reduceGT, reduceIte, j8, o1, T3, T38, T134, K0_6, K0_7] | simp (disch := first | assumption | omega) only [RV, j8, o1, K0_6, K0_7])) <;> rfl))
        | (apply R_cond
           · (simp only [RE, Nat.reduceEqDiff, Nat.reduceLT, Nat.reduceLeDiff, Nat.reduceBEq, reduceIte] <;> rfl))
        | (apply R_grd
           · (simp only [yieldedA, RY, Nat.reduceEqDiff, reduceIte] <;> rfl)))
      refine R_app E38 Try.underlying38 (v := e1 3) (w := w) (lo := h.nx) (xs := padZ a) (ys := b) ?_ ?_ own1 (hb.fr0 F1) n1 (by omega) ?_
      · first | rfl | (first | rw [ev_tmp] | rw [ev_const] | skip) <;> simp only [upd_apply, Nat.reduceEqDiff, if_true, if_false, reduceIte, lit_iv, lit_w8, K0_6, K0_7]
      · first | rfl | (first | rw [ev_tmp] | rw [ev_const] | skip) <;> simp only [upd_apply, Nat.reduceEqDiff, if_true, if_false, reduceIte, lit_iv, lit_w8, K0_6, K0_7]
      intro v2 h2 own2 wt2
      have n2 := wt2.nx
      have F2 := F1.trans (wt2.owFr n1 own1)
      have hlen : (padZ a ++ b).length ≤ 4194304 := by rw [List.length_append]; omega
      repeat (first
        | refine R_seq ?_ | refine R_region ?_ | refine R_nil ?_ | refine Q_seq ?_ | refine Q_norm ?_ | refine Q_seqr ?_ | refine Q_seqx ?_ | refine Q_bl ?_ | refine Q_blr ?_ | refine Q_blx ?_ | refine Q_blo rfl ?_ | refine R_block ?_ | refine R_skip ?_ | refine R_exit ?_ | refine R_ret ?_ | refine I_true ?_ | refine I_false ?_ | refine N_exit ?_ | refine N_ret ?_
        | ((first | apply R_op | apply R_op0)
           · ((repeat (first | simp (maxDischargeDepth := 9) only [RA, Nat.reduceEqDiff, Nat.reduceLT, Nat.reduceLeDiff, Nat.reduceAdd, Nat.reduceSub, Nat.reduceMul, Nat.reduceDiv, Nat.reduceMod, Nat.reducePow, Nat.reduceBEq, Nat.reduceGT, reduceIte, S38len own2.sl, un_neg_iv (padZ a ++ b).length (by omega), nv_and15 (padZ a ++ b).length (by omega), T3, T38, T134, K0_6, K0_7] | simp (disch := first | assumption | omega) only [RV, S38len own2.sl, un_neg_iv (padZ a ++ b).length (by omega), nv_and15 (padZ a ++ b).length (by omega), K0_6, K0_7])) <;> rfl))
        | (apply R_cond
           · (simp only [RE, Nat.reduceEqDiff, Nat.reduceLT, Nat.reduceLeDiff, Nat.reduceBEq, reduceIte] <;> rfl))
        | (apply R_grd
           · (simp only [yieldedA, RY, Nat.reduceEqDiff, reduceIte] <;> rfl)))
      have hk := padK16_le (padZ a ++ b).length
      refine R_app0 E38 Try.underlying3 (v := v2) (m := padK16 (padZ a ++ b).length) (lo := h.nx) (xs := padZ a ++ b) ?_ ?_ own2 (by omega) (by omega) (by omega) ?_
      · first | rfl | (first | rw [ev_tmp] | rw [ev_const] | skip) <;> simp only [upd_apply, Nat.reduceEqDiff, if_true, if_false, reduceIte, lit_iv, lit_w8, K0_6, K0_7]
      · first | rfl | (first | rw [ev_tmp] | rw [ev_const] | skip) <;> simp only [upd_apply, Nat.reduceEqDiff, if_true, if_false, reduceIte, lit_iv, lit_w8, K0_6, K0_7]
      intro v3 h3 own3 wt3
      have n3 := wt3.nx
      have F3 := F2.trans (wt3.owFr (by omega) own2)
      rw [padZ_join] at own3
      repeat (first
        | refine R_seq ?_ | refine R_region ?_ | refine R_nil ?_ | refine Q_seq ?_ | refine Q_norm ?_ | refine Q_seqr ?_ | refine Q_seqx ?_ | refine Q_bl ?_ | refine Q_blr ?_ | refine Q_blx ?_ | refine Q_blo rfl ?_ | refine R_block ?_ | refine R_skip ?_ | refine R_exit ?_ | refine R_ret ?_ | refine I_true ?_ | refine I_false ?_ | refine N_exit ?_ | refine N_ret ?_
        | ((first | apply R_op | apply R_op0)
           · ((repeat (first | simp (maxDischargeDepth := 9) only [RA, Nat.reduceEqDiff, Nat.reduceLT, Nat.reduceLeDiff, Nat.reduceAdd, Nat.reduceSub, Nat.reduceMul, Nat.reduceDiv, Nat.reduceMod, Nat.reducePow, Nat.reduceBEq, Nat.reduceGT, reduceIte, j8, T3, T38, T134, K0_6, K0_7] | simp (disch := first | assumption | omega) only [RV, j8, K0_6, K0_7])) <;> rfl))
        | (apply R_cond
           · (simp only [RE, Nat.reduceEqDiff, Nat.reduceLT, Nat.reduceLeDiff, Nat.reduceBEq, reduceIte] <;> rfl))
        | (apply R_grd
           · (simp only [yieldedA, RY, Nat.reduceEqDiff, reduceIte] <;> rfl)))
      refine ⟨rfl, by first | rfl | simp only [List.map_cons, List.map_nil, RH, Nat.reduceAdd, Nat.reduceEqDiff, reduceIte, T3, T38, T134, K0_6, K0_7], by first | rfl | simp only [List.map_cons, List.map_nil, RH, Nat.reduceAdd, Nat.reduceEqDiff, reduceIte, T3, T38, T134, K0_6, K0_7], by first | (simp only [RH, T3, T38, T134, K0_6, K0_7]; done) | ((try simp only [RH, T3, T38, T134, K0_6, K0_7]); omega), ?_⟩
      exact ⟨by (try simp only [List.map_cons, List.map_nil, RH, Nat.reduceAdd, Nat.reduceEqDiff, reduceIte, ev_tmp, ev_const, lit_iv, lit_w8, lit_w32, lit_w64, envOf0, envOf1, envOf2, envOf3, envOf4, envOf5, T3, T38, T134, K0_6, K0_7]), by (try simp only [List.map_cons, List.map_nil, RH, Nat.reduceAdd, Nat.reduceEqDiff, reduceIte, ev_tmp, ev_const, lit_iv, lit_w8, lit_w32, lit_w64, envOf0, envOf1, envOf2, envOf3, envOf4, envOf5, T3, T38, T134, K0_6, K0_7]); exact own3, F3⟩
  · intro e1 h1 hK hO hN ⟨j8, own1, F1⟩
    simp only [List.map_cons, List.map_nil, List.cons.injEq, and_true, RH, Nat.reduceAdd, Nat.reduceEqDiff, reduceIte, envOf0, envOf1, envOf2, envOf3, envOf4, envOf5] at hK
    obtain ⟨K0_6, K0_7⟩ := hK
    try simp only [RH] at hN
    have own1 : OwB h.nx h1 (e1 3) (padZ a ++ padZ b) := own1
    repeat (first
      | refine R_seq ?_ | refine R_region ?_ | refine R_nil ?_ | refine Q_seq ?_ | refine Q_norm ?_ | refine Q_seqr ?_ | refine Q_seqx ?_ | refine Q_bl ?_ | refine Q_blr ?_ | refine Q_blx ?_ | refine Q_blo rfl ?_ | refine R_block ?_ | refine R_skip ?_ | refine R_exit ?_ | refine R_ret ?_ | refine I_true ?_ | refine I_false ?_ | refine N_exit ?_ | refine N_ret ?_
      | ((first | apply R_op | apply R_op0)
         · ((repeat (first | simp (maxDischargeDepth := 9) only [RA, Nat.reduceEqDiff, Nat.reduceLT, Nat.reduceLeDiff, Nat.reduceAdd, Nat.reduceSub, Nat.reduceMul, Nat.reduceDiv, Nat.reduceMod, Nat.reducePow, Nat.reduceBEq, Nat.reduceGT, reduceIte, j8, T3, T38, T134, K0_6, K0_7] | simp (disch := first | assumption | omega) only [RV, j8, K0_6, K0_7])) <;> rfl))
      | (apply R_cond
         · (simp only [RE, Nat.reduceEqDiff, Nat.reduceLT, Nat.reduceLeDiff, Nat.reduceBEq, reduceIte] <;> rfl))
      | (apply R_grd
         · (simp only [yieldedA, RY, Nat.reduceEqDiff, reduceIte] <;> rfl)))
    refine ⟨.inr rfl, _, rfl, ?_, F1⟩
    (try simp only [List.map_cons, List.map_nil, RH, Nat.reduceAdd, Nat.reduceEqDiff, reduceIte, ev_tmp, ev_const, lit_iv, lit_w8, lit_w32, lit_w64, envOf0, envOf1, envOf2, envOf3, envOf4, envOf5, packR, T3, T38, T134, K0_6, K0_7])
    exact own1
theorem inl83 : inlOf Try.prog 83 = true := by kernel_rfl
theorem iso83 : isoOf Try.prog 83 = false := by kernel_rfl
theorem bs2w {a b : Option Addr} {n m x y : Nat} {h : Heap} : evBuildSlice Try.prog 134 2 [(0, .slice a n x), (1, .slice b m y)] h = some (.slice (some ⟨h.nx, 0, none⟩) 2 2, newRowH h .rw 1 [.slice a n x, .slice b m y]) := by kernel_rfl
set_option maxRecDepth 20000 in
set_option maxHeartbeats 8000000 in
theorem framed83 (q : Nat) (h : Heap) (v w : Value) (a b : List (BitVec 8)) (ha : By h v a) (hb : By h w b) (hal : a.length ≤ 1048576) (hbl : b.length ≤ 1048576) :
    ∃ v' h', fcall Try.prog (q + 2) (.func (.func 83) #[] #[]) [v, w] h = some (.ok v', h') ∧ OwB h.nx h' v' (framedS a b) ∧ Fr h.nx h h' := by
  obtain ⟨va, vc, hv⟩ := sl_shape ha
  obtain ⟨wa, wc, hw⟩ := sl_shape hb
  subst hv hw
  rw [fcall_inl inl83 iso83, evF_eq Try.func83 rfl]
  apply evEnd_of_W
  simp only [Try.f83]
  repeat (first
    | refine R_seq ?_ | refine R_region ?_ | refine R_nil ?_ | refine Q_seq ?_ | refine Q_norm ?_ | refine Q_seqr ?_ | refine Q_seqx ?_ | refine Q_bl ?_ | refine Q_blr ?_ | refine Q_blx ?_ | refine Q_blo rfl ?_ | refine R_block ?_ | refine R_skip ?_ | refine R_exit ?_ | refine R_ret ?_ | refine I_true ?_ | refine I_false ?_ | refine N_exit ?_ | refine N_ret ?_
    | ((first | apply R_op | apply R_op0)
       · ((repeat (first | simp (maxDischargeDepth := 9) only [RA, Nat.reduceEqDiff, Nat.reduceLT, Nat.reduceLeDiff, Nat.reduceAdd, Nat.reduceSub, Nat.reduceMul, Nat.reduceDiv, Nat.reduceMod, Nat.reducePow, Nat.reduceBEq, Nat.reduceGT, reduceIte, bs2w, T2, T38, T134] | simp (disch := first | assumption | omega) only [RV, bs2w])) <;> rfl))
    | (apply R_cond
       · (simp only [RE, Nat.reduceEqDiff, Nat.reduceLT, Nat.reduceLeDiff, Nat.reduceBEq, reduceIte] <;> rfl))
    | (apply R_grd
       · (simp only [yieldedA, RY, Nat.reduceEqDiff, reduceIte] <;> rfl)))
  obtain ⟨H, hH⟩ : ∃ H, H = newRowH h .rw 1 [.slice va a.length vc, .slice wa b.length wc] := ⟨_, rfl⟩
  rw [← hH]
  have o0 : H.obj h.nx = some (.row .rw 1 [.slice va a.length vc, .slice wa b.length wc]) := by rw [hH]; simp only [RH]
  have nH : H.nx = h.nx + 1 := by rw [hH]; simp only [RH]
  have FH : Fr h.nx h H := by rw [hH]; (repeat (first | assumption | exact Fr.refl _ _ | refine Fr.new ?_ ?_ _ _ _ | refine Fr.put ?_ ?_ _ | omega | (simp only [RH]; omega)))
  clear hH
  refine R_fn ?_ (whole112 q H h.nx _ _ a b (by omega) o0 (ha.fr0 FH) (hb.fr0 FH) hal hbl) ?_
  · rfl
  intro v1 h1 ⟨own1, F1⟩
  have n1 := F1.1
  have G1 := FH.trans (F1.le (by omega))
  repeat (first
    | refine R_seq ?_ | refine R_region ?_ | refine R_nil ?_ | refine Q_seq ?_ | refine Q_norm ?_ | refine Q_seqr ?_ | refine Q_seqx ?_ | refine Q_bl ?_ | refine Q_blr ?_ | refine Q_blx ?_ | refine Q_blo rfl ?_ | refine R_block ?_ | refine R_skip ?_ | refine R_exit ?_ | refine R_ret ?_ | refine I_true ?_ | refine I_false ?_ | refine N_exit ?_ | refine N_ret ?_
    | ((first | apply R_op | apply R_op0)
       · ((repeat (first | simp (maxDischargeDepth := 9) only [RA, Nat.reduceEqDiff, Nat.reduceLT, Nat.reduceLeDiff, Nat.reduceAdd, Nat.reduceSub, Nat.reduceMul, Nat.reduceDiv, Nat.reduceMod, Nat.reducePow, Nat.reduceBEq, Nat.reduceGT, reduceIte, T2, T38, T134] | simp (disch := first | assumption | omega) only [RV])) <;> rfl))
    | (apply R_cond
       · (simp only [RE, Nat.reduceEqDiff, Nat.reduceLT, Nat.reduceLeDiff, Nat.reduceBEq, reduceIte] <;> rfl))
    | (apply R_grd
       · (simp only [yieldedA, RY, Nat.reduceEqDiff, reduceIte] <;> rfl)))
  refine R_fn ?_ (length113 q h1 _ a (ha.fr0 G1) (by omega)) ?_
  · rfl
  intro v2 h2 ⟨hv2, b2, F2⟩
  subst hv2
  have n2 := F2.1
  have own2 : OwB H.nx h2 v1 (padZ a ++ padZ b) := own1.keep n2 (fun r hr => F2.2 r (own1.rows r hr).2)
  have hpa := padZ_le a
  have hpb := padZ_le b
  repeat (first
    | refine R_seq ?_ | refine R_region ?_ | refine R_nil ?_ | refine Q_seq ?_ | refine Q_norm ?_ | refine Q_seqr ?_ | refine Q_seqx ?_ | refine Q_bl ?_ | refine Q_blr ?_ | refine Q_blx ?_ | refine Q_blo rfl ?_ | refine R_block ?_ | refine R_skip ?_ | refine R_exit ?_ | refine R_ret ?_ | refine I_true ?_ | refine I_false ?_ | refine N_exit ?_ | refine N_ret ?_
    | ((first | apply R_op | apply R_op0)
       · ((repeat (first | simp (maxDischargeDepth := 9) only [RA, Nat.reduceEqDiff, Nat.reduceLT, Nat.reduceLeDiff, Nat.reduceAdd, Nat.reduceSub, Nat.reduceMul, Nat.reduceDiv, Nat.reduceMod, Nat.reducePow, Nat.reduceBEq, Nat.reduceGT, reduceIte, T2, T38, T134] | simp (disch := first | assumption | omega) only [RV])) <;> rfl))
    | (apply R_cond
       · (simp only [RE, Nat.reduceEqDiff, Nat.reduceLT, Nat.reduceLeDiff, Nat.reduceBEq, reduceIte] <;> rfl))
    | (apply R_grd
       · (simp only [yieldedA, RY, Nat.reduceEqDiff, reduceIte] <;> rfl)))
  refine R_app E38 Try.underlying38 (v := v1) (w := .slice (some ⟨h1.nx, 0, none⟩) 8 8) (lo := H.nx) (xs := padZ a ++ padZ b) (ys := leB a.length 8) ?_ ?_ own2 b2 (by omega) (by rw [List.length_append, leB_length]; omega) ?_
  · first | rfl | (first | rw [ev_tmp] | rw [ev_const] | skip) <;> simp only [upd_apply, Nat.reduceEqDiff, if_true, if_false, reduceIte, lit_iv, lit_w8]
  · first | rfl | (first | rw [ev_tmp] | rw [ev_const] | skip) <;> simp only [upd_apply, Nat.reduceEqDiff, if_true, if_false, reduceIte, lit_iv, lit_w8]
  intro v3 h3 own3 wt3
  have n3 := wt3.nx
  have F3 := wt3.owFr (by omega) own2
  have G3 := G1.trans ((F2.le (by omega)).trans (F3.le (by omega)))
  repeat (first
    | refine R_seq ?_ | refine R_region ?_ | refine R_nil ?_ | refine Q_seq ?_ | refine Q_norm ?_ | refine Q_seqr ?_ | refine Q_seqx ?_ | refine Q_bl ?_ | refine Q_blr ?_ | refine Q_blx ?_ | refine Q_blo rfl ?_ | refine R_block ?_ | refine R_skip ?_ | refine R_exit ?_ | refine R_ret ?_ | refine I_true ?_ | refine I_false ?_ | refine N_exit ?_ | refine N_ret ?_
    | ((first | apply R_op | apply R_op0)
       · ((repeat (first | simp (maxDischargeDepth := 9) only [RA, Nat.reduceEqDiff, Nat.reduceLT, Nat.reduceLeDiff, Nat.reduceAdd, Nat.reduceSub, Nat.reduceMul, Nat.reduceDiv, Nat.reduceMod, Nat.reducePow, Nat.reduceBEq, Nat.reduceGT, reduceIte, T2, T38, T134] | simp (disch := first | assumption | omega) only [RV])) <;> rfl))
    | (apply R_cond
       · (simp only [RE, Nat.reduceEqDiff, Nat.reduceLT, Nat.reduceLeDiff, Nat.reduceBEq, reduceIte] <;> rfl))
    | (apply R_grd
       · (simp only [yieldedA, RY, Nat.reduceEqDiff, reduceIte] <;> rfl)))
  refine R_fn ?_ (length113 q h3 _ b (hb.fr0 G3) (by omega)) ?_
  · rfl
  intro v4 h4 ⟨hv4, b4, F4⟩
  subst hv4
  have n4 := F4.1
  have own4 : OwB H.nx h4 v3 (padZ a ++ padZ b ++ leB a.length 8) := own3.keep n4 (fun r hr => F4.2 r (own3.rows r hr).2)
  repeat (first
    | refine R_seq ?_ | refine R_region ?_ | refine R_nil ?_ | refine Q_seq ?_ | refine Q_norm ?_ | refine Q_seqr ?_ | refine Q_seqx ?_ | refine Q_bl ?_ | refine Q_blr ?_ | refine Q_blx ?_ | refine Q_blo rfl ?_ | refine R_block ?_ | refine R_skip ?_ | refine R_exit ?_ | refine R_ret ?_ | refine I_true ?_ | refine I_false ?_ | refine N_exit ?_ | refine N_ret ?_
    | ((first | apply R_op | apply R_op0)
       · ((repeat (first | simp (maxDischargeDepth := 9) only [RA, Nat.reduceEqDiff, Nat.reduceLT, Nat.reduceLeDiff, Nat.reduceAdd, Nat.reduceSub, Nat.reduceMul, Nat.reduceDiv, Nat.reduceMod, Nat.reducePow, Nat.reduceBEq, Nat.reduceGT, reduceIte, T2, T38, T134] | simp (disch := first | assumption | omega) only [RV])) <;> rfl))
    | (apply R_cond
       · (simp only [RE, Nat.reduceEqDiff, Nat.reduceLT, Nat.reduceLeDiff, Nat.reduceBEq, reduceIte] <;> rfl))
    | (apply R_grd
       · (simp only [yieldedA, RY, Nat.reduceEqDiff, reduceIte] <;> rfl)))
  refine R_app E38 Try.underlying38 (v := v3) (w := .slice (some ⟨h3.nx, 0, none⟩) 8 8) (lo := H.nx) (xs := padZ a ++ padZ b ++ leB a.length 8) (ys := leB b.length 8) ?_ ?_ own4 b4 (by omega) (by rw [List.length_append, List.length_append, leB_length, leB_length]; omega) ?_
  · first | rfl | (first | rw [ev_tmp] | rw [ev_const] | skip) <;> simp only [upd_apply, Nat.reduceEqDiff, if_true, if_false, reduceIte, lit_iv, lit_w8]
  · first | rfl | (first | rw [ev_tmp] | rw [ev_const] | skip) <;> simp only [upd_apply, Nat.reduceEqDiff, if_true, if_false, reduceIte, lit_iv, lit_w8]
  intro v5 h5 own5 wt5
  have F5 := wt5.owFr (by omega) own4
  repeat (first
    | refine R_seq ?_ | refine R_region ?_ | refine R_nil ?_ | refine Q_seq ?_ | refine Q_norm ?_ | refine Q_seqr ?_ | refine Q_seqx ?_ | refine Q_bl ?_ | refine Q_blr ?_ | refine Q_blx ?_ | refine Q_blo rfl ?_ | refine R_block ?_ | refine R_skip ?_ | refine R_exit ?_ | refine R_ret ?_ | refine I_true ?_ | refine I_false ?_ | refine N_exit ?_ | refine N_ret ?_
    | ((first | apply R_op | apply R_op0)
       · ((repeat (first | simp (maxDischargeDepth := 9) only [RA, Nat.reduceEqDiff, Nat.reduceLT, Nat.reduceLeDiff, Nat.reduceAdd, Nat.reduceSub, Nat.reduceMul, Nat.reduceDiv, Nat.reduceMod, Nat.reducePow, Nat.reduceBEq, Nat.reduceGT, reduceIte, T2, T38, T134] | simp (disch := first | assumption | omega) only [RV])) <;> rfl))
    | (apply R_cond
       · (simp only [RE, Nat.reduceEqDiff, Nat.reduceLT, Nat.reduceLeDiff, Nat.reduceBEq, reduceIte] <;> rfl))
    | (apply R_grd
       · (simp only [yieldedA, RY, Nat.reduceEqDiff, reduceIte] <;> rfl)))
  refine ⟨.inr rfl, _, rfl, ?_, G3.trans ((F4.le (by omega)).trans (F5.le (by omega)))⟩
  (try simp only [List.map_cons, List.map_nil, RH, Nat.reduceAdd, Nat.reduceEqDiff, reduceIte, ev_tmp, ev_const, lit_iv, lit_w8, lit_w32, lit_w64, envOf0, envOf1, envOf2, envOf3, envOf4, envOf5, packR, T2, T38, T134])
  unfold framedS
  exact own5.le (by omega)
end Go.Proofs.Ytfehhihllenjiaa
