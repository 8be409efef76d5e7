/- One-time tags: the tag. -/
import Derived.Test.YtfehhihllenjiaaKi
import Derived.Test.YtfehhihllenjiaaC6
set_option linter.all false
namespace Go.Proofs.Ytfehhihllenjiaa
open Go.Proofs
theorem blkP_length (b : List (BitVec 8)) (j : Nat) : (blkP b j).length = min 16 (b.length - 16 * j) := by simp [blkP]
theorem blkP_le (b : List (BitVec 8)) (j : Nat) : (blkP b j).length ≤ 16 := by rw [blkP_length]; omega
theorem leB_set (V i : Nat) (hi : i < 16) : (leB V i ++ List.replicate (16 - i) 0#8).set i (BitVec.ofNat 8 (V / 256 ^ i)) = leB V (i + 1) ++ List.replicate (16 - (i + 1)) 0#8 := by
  rw [List.set_append_right _ _ (by rw [leB_length]; exact Nat.le_refl _), leB_length, Nat.sub_self, show 16 - i = (16 - (i + 1)) + 1 by omega, List.replicate_succ, List.set_cons_zero, leB_snoc, List.append_assoc]
  rfl
theorem half_N {k : List (BitVec 8)} (hk : k.length = 32) : N3 (lowW ((k.drop 16).take 8)) (lowW (k.drop 24)) 0#64 = leN ((k.drop 16).take 16) := by
  have e : (k.drop 16).take 16 = (k.drop 16).take 8 ++ k.drop 24 := by
    rw [List.take_of_length_le (by simp; omega)]
    conv => lhs; rw [← List.take_append_drop 8 (k.drop 16), List.drop_drop]
  have z : (0#64).toNat = 0 := rfl
  unfold N3
  rw [lowW_toNat (by simp; omega), lowW_toNat (by simp; omega), e, leN_append, show ((k.drop 16).take 8).length = 8 by simp; omega, z]
  omega
attribute [local irreducible] evOps iter evD evF evC evLoad evStore evAlloc evIndexAddr evIndex evLenB evBox evBin evUn evConvert evExtract evSlice evAppend evCopy evNil evBuild evMakeSlice evBuildSlice evBuiltin Program.underlying
attribute [local irreducible] mulHi addC lowW w24 blkP polyA polyN
theorem inl99 : inlOf Try.prog 99 = true := by kernel_rfl
theorem iso99 : isoOf Try.prog 99 = false := by kernel_rfl
theorem blocks99 (q : Nat) (h : Heap) (a : Option Addr) (n c : Nat) : ∃ v' h', fcall Try.prog (q + 1) (.func (.func 99) #[] #[]) [.slice a n c] h = some (.ok v', h') ∧ v' = .func (.func 116) #[] #[.pointer (some ⟨h.nx, 0, none⟩)] ∧ h' = newRowH h .rw 1 [.slice a n c] := by
  rw [fcall_inl inl99 iso99, evF_eq Try.func99 rfl]
  apply evEnd_of_W
  simp only [Try.f99]
  repeat (first
    | refine R_seq ?_ | refine R_region ?_ | refine R_nil ?_ | refine Q_seq ?_ | refine Q_norm ?_ | refine Q_seqr ?_ | refine Q_seqx ?_ | refine Q_bl ?_ | refine Q_blr ?_ | refine Q_blx ?_ | refine Q_blo rfl ?_ | refine R_block ?_ | refine R_skip ?_ | refine R_exit ?_ | refine R_ret ?_ | refine I_true ?_ | refine I_false ?_ | refine N_exit ?_ | refine N_ret ?_
    | (refine R_draw (by kernel_rfl) ?_)
    | ((first | apply R_op | apply R_op0)
       · ((repeat (first | simp (maxDischargeDepth := 9) only [RA, Nat.reduceEqDiff, Nat.reduceLT, Nat.reduceLeDiff, Nat.reduceAdd, Nat.reduceSub, Nat.reduceMul, Nat.reduceDiv, Nat.reduceMod, Nat.reducePow, Nat.reduceBEq, Nat.reduceGT, reduceIte, box_one (v := .slice a n c) rfl rfl, T38] | simp (disch := first | assumption | omega) only [RV, box_one (v := .slice a n c) rfl rfl])) <;> rfl))
    | (apply R_cond
       · (simp only [RE, Nat.reduceEqDiff, Nat.reduceLT, Nat.reduceLeDiff, Nat.reduceBEq, reduceIte] <;> rfl))
    | (apply R_grd
       · (simp only [yieldedA, RY, Nat.reduceEqDiff, reduceIte] <;> rfl)))
  refine ⟨.inr rfl, _, rfl, ?_, rfl⟩
  (try simp only [List.map_cons, List.map_nil, RH, Nat.reduceAdd, Nat.reduceEqDiff, reduceIte, ev_tmp, ev_const, lit_iv, lit_w8, lit_w32, lit_w64, envOf0, envOf1, envOf2, envOf3, envOf4, envOf5, packR, T38])
theorem inl116 : inlOf Try.prog 116 = true := by kernel_rfl
theorem iso116 : isoOf Try.prog 116 = false := by kernel_rfl
set_option maxRecDepth 20000 in
set_option maxHeartbeats 8000000 in
theorem clo116 (q l p : Nat) (h : Heap) (v : Value) (xs : List (BitVec 8)) (N : Nat) (hN : N = (xs.length + 15) / 16) (hN2 : xs.length < 1099511627776) (hop : h.obj p = some (.row .rw 1 [v])) (hb : By h v xs) (hpv : p ∉ rowsOfV v) (I : Nat → Heap → Prop) (hI0 : I 0 h)
    (hst : ∀ k H o, I k H → I k (H.put p o))
    (hy : ∀ k H w, k < N → I k H → By H w (blkP xs k) → ∃ v' H', fcall Try.prog q (.func (.yield l) #[] #[]) [w] H = some (.ok v', H') ∧ v' = .bool true ∧ I (k + 1) H' ∧ H.nx ≤ H'.nx ∧ H'.obj p = H.obj p ∧ ∀ r ∈ rowsOfV v, H'.obj r = H.obj r) :
    ∃ v' H', fcall Try.prog (q + 1) (.func (.func 116) #[] #[.pointer (some ⟨p, 0, none⟩)]) [.func (.yield l) #[] #[]] h = some (.ok v', H') ∧ I N H' := by
  rw [fcall_clo inl116 iso116, evF_eq Try.func116 rfl]
  apply evEnd_of_W
  simp only [Try.f116, List.nil_append, List.cons_append]
  repeat (first
    | refine R_seq ?_ | refine R_region ?_ | refine R_nil ?_ | refine Q_seq ?_ | refine Q_norm ?_ | refine Q_seqr ?_ | refine Q_seqx ?_ | refine Q_bl ?_ | refine Q_blr ?_ | refine Q_blx ?_ | refine Q_blo rfl ?_ | refine R_block ?_ | refine R_skip ?_ | refine R_exit ?_ | refine R_ret ?_ | refine I_true ?_ | refine I_false ?_ | refine N_exit ?_ | refine N_ret ?_
    | (refine R_draw (by kernel_rfl) ?_)
    | ((first | apply R_op | apply R_op0)
       · ((repeat (first | simp (maxDischargeDepth := 9) only [RA, Nat.reduceEqDiff, Nat.reduceLT, Nat.reduceLeDiff, Nat.reduceAdd, Nat.reduceSub, Nat.reduceMul, Nat.reduceDiv, Nat.reduceMod, Nat.reducePow, Nat.reduceBEq, Nat.reduceGT, reduceIte, T3, T4, T38] | simp (disch := first | assumption | omega) only [RV])) <;> rfl))
    | (apply R_cond
       · (simp only [RE, Nat.reduceEqDiff, Nat.reduceLT, Nat.reduceLeDiff, Nat.reduceBEq, reduceIte] <;> rfl))
    | (apply R_grd
       · (simp only [yieldedA, RY, Nat.reduceEqDiff, reduceIte] <;> rfl)))
  refine W_loopK [0, 1] [] (fun k e1 h1 => ∃ w, h1.obj p = some (.row .rw 1 [w]) ∧ By h1 w (xs.drop (16 * k)) ∧ (∀ r ∈ rowsOfV w, r ∈ rowsOfV v) ∧ I k h1) N (by omega) ?_ ?_ ?_
  · exact ⟨v, hop, by simpa using hb, fun r hr => hr, hI0⟩
  · intro k hk e1 h1 hK hO hN1 ⟨w, o1, b1, r1, I1⟩
    have hNN := hN1
    simp only [List.map_cons, List.map_nil, List.cons.injEq, and_true, RH, Nat.reduceAdd, Nat.reduceEqDiff, reduceIte, envOf0, envOf1, envOf2, envOf3, envOf4, envOf5] at hK
    obtain ⟨K0_0, K0_1⟩ := hK
    try simp only [RH] at hN
    have hpos : 0 < (xs.drop (16 * k)).length := by rw [List.length_drop]; omega
    have hm1 : min 16 (xs.drop (16 * k)).length ≤ (xs.drop (16 * k)).length := Nat.min_le_right _ _
    have s1 := S38h (hh := min 16 (xs.drop (16 * k)).length) b1 fr_refl hm1
    have hsub : By h1 (subS 1 0 (min 16 (xs.drop (16 * k)).length) none w) (blkP xs k) := by
      have := By.subh (mx := none) (hh := min 16 (xs.drop (16 * k)).length) b1 hm1 (fun m hm => nomatch hm)
      unfold blkP
      rwa [show (xs.drop (16 * k)).take (min 16 (xs.drop (16 * k)).length) = (xs.drop (16 * k)).take 16 by rw [List.take_eq_take_iff]; simp] at this
    repeat (first
      | refine R_seq ?_ | refine R_region ?_ | refine R_nil ?_ | refine Q_seq ?_ | refine Q_norm ?_ | refine Q_seqr ?_ | refine Q_seqx ?_ | refine Q_bl ?_ | refine Q_blr ?_ | refine Q_blx ?_ | refine Q_blo rfl ?_ | refine R_block ?_ | refine R_skip ?_ | refine R_exit ?_ | refine R_ret ?_ | refine I_true ?_ | refine I_false ?_ | refine N_exit ?_ | refine N_ret ?_
      | ((first | apply R_op | apply R_op0)
         · ((repeat (first | simp (maxDischargeDepth := 9) only [RA, Nat.reduceEqDiff, Nat.reduceLT, Nat.reduceLeDiff, Nat.reduceAdd, Nat.reduceSub, Nat.reduceMul, Nat.reduceDiv, Nat.reduceMod, Nat.reducePow, Nat.reduceBEq, Nat.reduceGT, reduceIte, o1, S38len b1, hpos, s1, bi_min, T3, T4, T38, K0_0, K0_1] | simp (disch := first | assumption | omega) only [RV, o1, S38len b1, hpos, s1, bi_min, K0_0, K0_1])) <;> rfl))
      | (apply R_cond
         · (simp only [RE, Nat.reduceEqDiff, Nat.reduceLT, Nat.reduceLeDiff, Nat.reduceBEq, reduceIte] <;> rfl))
      | (apply R_grd
         · (simp only [yieldedA, RY, Nat.reduceEqDiff, reduceIte] <;> rfl)))
    obtain ⟨v2, h2, e2, rfl, I2, n2, p2, r2⟩ := hy k h1 _ hk I1 hsub
    refine R_call (p := fun v H => v = .bool true ∧ H = h2) ⟨_, _, ?_, rfl, rfl⟩ ?_
    · rw [op_call]
      refine Eq.trans ?_ e2
      first | rfl | (first | rw [ev_tmp] | rw [ev_const] | skip) <;> simp only [upd_apply, Nat.reduceEqDiff, if_true, if_false, reduceIte, lit_iv, lit_w8, K0_0, K0_1]
    intro v3 h3 ⟨hv, hh⟩
    subst hv hh
    have b2 : By h3 w (xs.drop (16 * k)) := b1.keep n2 (fun r hr => r2 r (r1 r hr))
    have s2 := S38l (l := min 16 (xs.drop (16 * k)).length) b2 fr_refl hm1
    rw [o1] at p2
    have b3 := By.subl (l := min 16 (xs.drop (16 * k)).length) b2 hm1
    rw [List.drop_drop, show xs.drop (16 * k + min 16 (xs.drop (16 * k)).length) = xs.drop (16 * (k + 1)) by
      by_cases hc : 16 * (k + 1) ≤ xs.length
      · rw [Nat.min_eq_left (by rw [List.length_drop]; omega)]; congr 1
      · rw [List.drop_eq_nil_of_le (show xs.length ≤ 16 * (k + 1) by omega), List.length_drop]
        exact List.drop_eq_nil_of_le (by omega)] at b3
    obtain ⟨a3, c3, hs3⟩ := sl_shape b3
    have r3 : ∀ r ∈ rowsOfV (subS 1 (min 16 (xs.drop (16 * k)).length) (xs.drop (16 * k)).length none w), r ∈ rowsOfV v := fun r hr => r1 r (Sl.sub_rows r hr)
    rw [hs3] at s2 b3 r3
    repeat (first
      | refine R_seq ?_ | refine R_region ?_ | refine R_nil ?_ | refine Q_seq ?_ | refine Q_norm ?_ | refine Q_seqr ?_ | refine Q_seqx ?_ | refine Q_bl ?_ | refine Q_blr ?_ | refine Q_blx ?_ | refine Q_blo rfl ?_ | refine R_block ?_ | refine R_skip ?_ | refine R_exit ?_ | refine R_ret ?_ | refine I_true ?_ | refine I_false ?_ | refine N_exit ?_ | refine N_ret ?_
      | ((first | apply R_op | apply R_op0)
         · ((repeat (first | simp (maxDischargeDepth := 9) only [RA, Nat.reduceEqDiff, Nat.reduceLT, Nat.reduceLeDiff, Nat.reduceAdd, Nat.reduceSub, Nat.reduceMul, Nat.reduceDiv, Nat.reduceMod, Nat.reducePow, Nat.reduceBEq, Nat.reduceGT, reduceIte, p2, s2, T3, T4, T38, K0_0, K0_1] | simp (disch := first | assumption | omega) only [RV, p2, s2, K0_0, K0_1])) <;> rfl))
      | (apply R_cond
         · (simp only [RE, Nat.reduceEqDiff, Nat.reduceLT, Nat.reduceLeDiff, Nat.reduceBEq, reduceIte] <;> rfl))
      | (apply R_grd
         · (simp only [yieldedA, RY, Nat.reduceEqDiff, reduceIte] <;> rfl)))
    refine ⟨rfl, by first | rfl | simp only [List.map_cons, List.map_nil, RH, Nat.reduceAdd, Nat.reduceEqDiff, reduceIte, T3, T4, T38, K0_0, K0_1], by first | rfl | simp only [List.map_cons, List.map_nil, RH, Nat.reduceAdd, Nat.reduceEqDiff, reduceIte, T3, T4, T38, K0_0, K0_1], by first | (simp only [RH, T3, T4, T38, K0_0, K0_1]; done) | ((try simp only [RH, T3, T4, T38, K0_0, K0_1]); omega), ?_⟩
    refine ⟨_, ?_, ?_, r3, hst _ _ _ I2⟩
    · simp only [RH]
    · refine Sl.keep (h := h3) b3 (Nat.le_refl _) (fun r hr => by rw [obj_put, if_neg]; intro e; subst e; exact hpv (r3 _ hr))
  · intro e1 h1 hK hO hN1 ⟨w, o1, b1, r1, I1⟩
    have hNN := hN1
    simp only [List.map_cons, List.map_nil, List.cons.injEq, and_true, RH, Nat.reduceAdd, Nat.reduceEqDiff, reduceIte, envOf0, envOf1, envOf2, envOf3, envOf4, envOf5] at hK
    obtain ⟨K0_0, K0_1⟩ := hK
    try simp only [RH] at hN
    have hlt : ¬ 0 < (xs.drop (16 * N)).length := by rw [List.length_drop]; omega
    repeat (first
      | refine R_seq ?_ | refine R_region ?_ | refine R_nil ?_ | refine Q_seq ?_ | refine Q_norm ?_ | refine Q_seqr ?_ | refine Q_seqx ?_ | refine Q_bl ?_ | refine Q_blr ?_ | refine Q_blx ?_ | refine Q_blo rfl ?_ | refine R_block ?_ | refine R_skip ?_ | refine R_exit ?_ | refine R_ret ?_ | refine I_true ?_ | refine I_false ?_ | refine N_exit ?_ | refine N_ret ?_
      | ((first | apply R_op | apply R_op0)
         · ((repeat (first | simp (maxDischargeDepth := 9) only [RA, Nat.reduceEqDiff, Nat.reduceLT, Nat.reduceLeDiff, Nat.reduceAdd, Nat.reduceSub, Nat.reduceMul, Nat.reduceDiv, Nat.reduceMod, Nat.reducePow, Nat.reduceBEq, Nat.reduceGT, reduceIte, o1, S38len b1, hlt, T3, T4, T38, K0_0, K0_1] | simp (disch := first | assumption | omega) only [RV, o1, S38len b1, hlt, K0_0, K0_1])) <;> rfl))
      | (apply R_cond
         · (simp only [RE, Nat.reduceEqDiff, Nat.reduceLT, Nat.reduceLeDiff, Nat.reduceBEq, reduceIte] <;> rfl))
      | (apply R_grd
         · (simp only [yieldedA, RY, Nat.reduceEqDiff, reduceIte] <;> rfl)))
    exact ⟨.inl rfl, _, rfl, I1⟩
theorem inl63 : inlOf Try.prog 63 = true := by kernel_rfl
theorem iso63 : isoOf Try.prog 63 = false := by kernel_rfl
theorem bu102 (a b : BitVec 64) : evBuild Try.prog 102 [(0, w64 a), (1, w64 b)] = some (.agg ⟨[w64 a, w64 b]⟩) := by kernel_rfl
theorem bu107 (a b : BitVec 64) : evBuild Try.prog 107 [(1, .agg ⟨[w64 a, w64 b]⟩)] = some (.agg ⟨[w64 0#64, w64 0#64, w64 0#64, w64 a, w64 b]⟩) := by kernel_rfl
set_option maxRecDepth 20000 in
set_option maxHeartbeats 8000000 in
theorem sum63 (q : Nat) (h : Heap) (k : List (BitVec 8)) (hk : k.length = 32) (v : Value) (b : List (BitVec 8)) (hb : By h v b) (hl : b.length ≤ 2147483648) :
    ∃ v' h', fcall Try.prog (q + 8) (.func (.func 63) #[] #[]) [.agg ⟨b8 k⟩, v] h = some (.ok v', h') ∧ v' = .agg ⟨b8 (polyT k b)⟩ ∧ Fr h.nx h h' := by
  obtain ⟨va, vc, hv⟩ := sl_shape hb
  subst hv
  rw [fcall_inl inl63 iso63, evF_eq Try.func63 rfl]
  apply evEnd_of_W
  simp only [Try.f63]
  have hcl := clampB_length k
  have hp16 := fun (H : Heap) (p : Nat) => puts8 (h := H) (b := p) (es := 1) hcl (List.length_replicate (n := 16) (a := 0#8))
  have hck := fun (kd : Kind) (es : Nat) => cut8 (k := kd) (es := es) hk
  repeat (first
    | refine R_seq ?_ | refine R_region ?_ | refine R_nil ?_ | refine Q_seq ?_ | refine Q_norm ?_ | refine Q_seqr ?_ | refine Q_seqx ?_ | refine Q_bl ?_ | refine Q_blr ?_ | refine Q_blx ?_ | refine Q_blo rfl ?_ | refine R_block ?_ | refine R_skip ?_ | refine R_exit ?_ | refine R_ret ?_ | refine I_true ?_ | refine I_false ?_ | refine N_exit ?_ | refine N_ret ?_
    | ((first | apply R_op | apply R_op0)
       · ((repeat (first | simp (maxDischargeDepth := 9) only [RA, Nat.reduceEqDiff, Nat.reduceLT, Nat.reduceLeDiff, Nat.reduceAdd, Nat.reduceSub, Nat.reduceMul, Nat.reduceDiv, Nat.reduceMod, Nat.reducePow, Nat.reduceBEq, Nat.reduceGT, reduceIte, hk, hck, clamp65 (q + 5) _ k hk, hp16, T3, T5, T30, T38, T56, T57, T93, T100, T102, T103, T105, T107, cv64_8 Try.underlying93 Try.underlying5] | simp (disch := first | assumption | omega) only [RV, hk, hck, clamp65 (q + 5) _ k hk, hp16])) <;> rfl))
    | (apply R_cond
       · (simp only [RE, Nat.reduceEqDiff, Nat.reduceLT, Nat.reduceLeDiff, Nat.reduceBEq, reduceIte] <;> rfl))
    | (apply R_grd
       · (simp only [yieldedA, RY, Nat.reduceEqDiff, reduceIte] <;> rfl)))
  refine W_heap fun H hH => ?_
  have o0 : H.obj h.nx = some (.row .rw 1 (b8 k)) := by rw [hH]; simp [RH]
  have o1 : H.obj (h.nx + 1) = some (.row .rw 1 (b8 (List.replicate 16 0#8))) := by rw [hH]; simp [RH]
  have o2 : H.obj (h.nx + 2) = some (.row .rw 1 (b8 (clampB k))) := by rw [hH]; simp [RH]
  have nH : H.nx = h.nx + 3 := by rw [hH]; simp [RH]
  have FH : Fr h.nx h H := by rw [hH]; (repeat (first | assumption | exact Fr.refl _ _ | refine Fr.new ?_ ?_ _ _ _ | refine Fr.put ?_ ?_ _ | omega | (simp only [RH]; omega)))
  clear hH hp16
  have hcb := clampB_lt k
  have b1 : By H (.slice (some ⟨h.nx + 2, 0, none⟩) 8 16) ((clampB k).take 8) := by_sub (by omega) o2 (by decide) (by omega) (by simp)
  have b2 : By H (.slice (some ⟨h.nx + 2, 0 + 8 * 1, none⟩) (16 - 8) (16 - 8)) ((clampB k).drop 8) := by_sub (by omega) o2 (by decide) (by omega) (List.take_of_length_le (by simp; omega))
  have l1 := low98 (q + 5) H _ _ b1 (by simp; omega)
  have l2 := low98 (q + 5) H _ _ b2 (by simp; omega)
  have hR : N2 (lowW ((clampB k).take 8)) (lowW ((clampB k).drop 8)) = leN (clampB k) := by
    unfold N2
    rw [lowW_toNat (by simp; omega), lowW_toNat (by simp; omega)]
    conv => rhs; rw [← List.take_append_drop 8 (clampB k), leN_append]
    rw [show ((clampB k).take 8).length = 8 by simp; omega]
  refine D_draw [0, 1, 2, 3] (fun _ => True) (by kernel_rfl) ?_
  repeat (first
    | refine D_nil ?_ | refine I_true ?_ | refine I_false ?_
    | ((first | apply D_op | apply D_op0)
       · ((repeat (first | simp (maxDischargeDepth := 9) only [RA, Nat.reduceEqDiff, Nat.reduceLT, Nat.reduceLeDiff, Nat.reduceAdd, Nat.reduceSub, Nat.reduceMul, Nat.reduceDiv, Nat.reduceMod, Nat.reducePow, Nat.reduceBEq, Nat.reduceGT, reduceIte, l1, l2, bu102, bu107, T3, T5, T30, T38, T56, T57, T93, T100, T102, T103, T105, T107, cv64_8 Try.underlying93 Try.underlying5] | simp (disch := first | assumption | omega) only [RV, l1, l2, bu102, bu107])) <;> rfl)
       · (intro hF; first | exact chk_pure rfl | exact chk_alloc rfl | exact chk_read rfl | exact chk_iso iso65 | exact chk_call iso65 (fun _ _ _ => rfl) | exact chk_iso iso98 | exact chk_call iso98 (fun _ _ _ => rfl) | exact chk_iso iso99 | exact chk_call iso99 (fun _ _ _ => rfl) | exact chk_iso iso100 | exact chk_call iso100 (fun _ _ _ => rfl) | exact chk_iso iso101 | exact chk_call iso101 (fun _ _ _ => rfl) | exact chk_iso iso102 | exact chk_call iso102 (fun _ _ _ => rfl) | exact chk_iso iso103 | exact chk_call iso103 (fun _ _ _ => rfl) | (exfalso; revert hF; decide) | ((first | refine chk_load ?_ | refine chk_slice ?_ | refine chk_convert ?_ | refine chk_store ?_ | refine chk_call (by kernel_rfl) ?_); simp only [eq_self, ev_tmp, upd_apply, rowsOfV, List.mem_cons, List.not_mem_nil, or_false, forall_eq, forall_eq_or_imp, obj_put, obj_new, nx_new, nx_put, Nat.reduceEqDiff, if_true, if_false, reduceIte, implies_true, and_self, and_true, true_or, or_true, l1, l2, bu102, bu107, T3, T5, T30, T38, T56, T57, T93, T100, T102, T103, T105, T107, cv64_8 Try.underlying93 Try.underlying5])))
    | (apply D_grd
       · (simp only [yieldedA, RY, Nat.reduceEqDiff, reduceIte] <;> rfl)))
  repeat (first
    | refine R_seq ?_ | refine R_region ?_ | refine R_nil ?_ | refine Q_seq ?_ | refine Q_norm ?_ | refine Q_seqr ?_ | refine Q_seqx ?_ | refine Q_bl ?_ | refine Q_blr ?_ | refine Q_blx ?_ | refine Q_blo rfl ?_ | refine R_block ?_ | refine R_skip ?_ | refine R_exit ?_ | refine R_ret ?_ | refine I_true ?_ | refine I_false ?_ | refine N_exit ?_ | refine N_ret ?_
    | ((first | apply R_op | apply R_op0)
       · ((repeat (first | simp (maxDischargeDepth := 9) only [RA, Nat.reduceEqDiff, Nat.reduceLT, Nat.reduceLeDiff, Nat.reduceAdd, Nat.reduceSub, Nat.reduceMul, Nat.reduceDiv, Nat.reduceMod, Nat.reducePow, Nat.reduceBEq, Nat.reduceGT, reduceIte, T3, T5, T30, T38, T56, T57, T93, T100, T102, T103, T105, T107, cv64_8 Try.underlying93 Try.underlying5] | simp (disch := first | assumption | omega) only [RV])) <;> rfl))
    | (apply R_cond
       · (simp only [RE, Nat.reduceEqDiff, Nat.reduceLT, Nat.reduceLeDiff, Nat.reduceBEq, reduceIte] <;> rfl))
    | (apply R_grd
       · (simp only [yieldedA, RY, Nat.reduceEqDiff, reduceIte] <;> rfl)))
  refine R_fn ?_ (blocks99 (q + 6) _ va b.length vc) ?_
  · rfl
  intro v2 h2 ⟨hv2, hh2⟩
  subst hv2
  generalize lowW ((clampB k).take 8) = r0 at hR hh2 ⊢
  generalize lowW ((clampB k).drop 8) = r1 at hR hh2 ⊢
  have p0 : h2.obj h.nx = some (.row .rw 1 (b8 k)) := by rw [hh2]; simp [RH, nH, o0]
  have p1 : h2.obj (h.nx + 1) = some (.row .rw 1 (b8 (List.replicate 16 0#8))) := by rw [hh2]; simp [RH, nH, o1]
  have p3 : h2.obj (h.nx + 3) = some (.row .rw 1 [w64 0#64, w64 0#64, w64 0#64, w64 r0, w64 r1]) := by rw [hh2]; simp [RH, nH]
  have p4 : h2.obj (h.nx + 4) = some (.row .rw 1 [.pointer (some ⟨h.nx + 3, 0, none⟩)]) := by rw [hh2]; simp [RH, nH]
  have p5 : h2.obj (h.nx + 5) = some (.row .rw 1 [.slice va b.length vc]) := by rw [hh2]; simp [RH, nH]
  have n2 : h2.nx = h.nx + 6 := by rw [hh2]; simp [RH, nH]
  have F2 : Fr h.nx h h2 := by rw [hh2]; refine FH.trans ?_; (repeat (first | assumption | exact Fr.refl _ _ | refine Fr.new ?_ ?_ _ _ _ | refine Fr.put ?_ ?_ _ | omega | (simp only [RH]; omega)))
  clear hh2
  have bb2 : By h2 (.slice va b.length vc) b := hb.fr0 F2
  have hblt := hb.lt
  simp only [nx_new, nx_put, nH, Nat.add_assoc, Nat.reduceAdd]
  repeat (first
    | refine R_seq ?_ | refine R_region ?_ | refine R_nil ?_ | refine Q_seq ?_ | refine Q_norm ?_ | refine Q_seqr ?_ | refine Q_seqx ?_ | refine Q_bl ?_ | refine Q_blr ?_ | refine Q_blx ?_ | refine Q_blo rfl ?_ | refine R_block ?_ | refine R_skip ?_ | refine R_exit ?_ | refine R_ret ?_ | refine I_true ?_ | refine I_false ?_ | refine N_exit ?_ | refine N_ret ?_
    | ((first | apply R_op | apply R_op0)
       · ((repeat (first | simp (maxDischargeDepth := 9) only [RA, Nat.reduceEqDiff, Nat.reduceLT, Nat.reduceLeDiff, Nat.reduceAdd, Nat.reduceSub, Nat.reduceMul, Nat.reduceDiv, Nat.reduceMod, Nat.reducePow, Nat.reduceBEq, Nat.reduceGT, reduceIte, T3, T5, T30, T38, T56, T57, T93, T100, T102, T103, T105, T107, cv64_8 Try.underlying93 Try.underlying5] | simp (disch := first | assumption | omega) only [RV])) <;> rfl))
    | (apply R_cond
       · (simp only [RE, Nat.reduceEqDiff, Nat.reduceLT, Nat.reduceLeDiff, Nat.reduceBEq, reduceIte] <;> rfl))
    | (apply R_grd
       · (simp only [yieldedA, RY, Nat.reduceEqDiff, reduceIte] <;> rfl)))
  refine R_range2 (g := 116) (first := #[]) (cap := #[.pointer (some ⟨h.nx + 5, 0, none⟩)]) (p := fun H => H.obj h.nx = some (.row .rw 1 (b8 k)) ∧ H.obj (h.nx + 1) = some (.row .rw 1 (b8 (List.replicate 16 0#8))) ∧ H.obj (h.nx + 4) = some (.row .rw 1 [.pointer (some ⟨h.nx + 3, 0, none⟩)]) ∧ (∃ y0 y1 y2, H.obj (h.nx + 3) = some (.row .rw 1 [w64 y0, w64 y1, w64 y2, w64 r0, w64 r1]) ∧ N3 y0 y1 y2 < Q130 ∧ N3 y0 y1 y2 % P130 = polyA (leN (clampB k)) b (polyN b)) ∧ Fr h.nx h2 H ∧ h2.nx < H.nx) ?_ ?_ ?_
  · first | rfl | (first | rw [ev_tmp] | rw [ev_const] | skip) <;> simp only [upd_apply, Nat.reduceEqDiff, if_true, if_false, reduceIte, lit_iv, lit_w8]
  · intro L0 hL0
    have main := clo116 (q + 6) h2.nx (h.nx + 5) (h2.push (.loop L0)) (.slice va b.length vc) b (polyN b) (by unfold polyN; rfl) (by omega) (by rw [obj_push, if_neg (by omega)]; exact p5)
      (bb2.keep (by rw [nx_push]; omega) (fun r hr => by have := hblt r hr; rw [obj_push, if_neg (by omega)])) (fun hr => by have := hblt _ hr; omega)
      (fun j H => H.obj h2.nx = some (.loop L0) ∧ H.obj h.nx = some (.row .rw 1 (b8 k)) ∧ H.obj (h.nx + 1) = some (.row .rw 1 (b8 (List.replicate 16 0#8))) ∧ H.obj (h.nx + 4) = some (.row .rw 1 [.pointer (some ⟨h.nx + 3, 0, none⟩)]) ∧ (∃ y0 y1 y2, H.obj (h.nx + 3) = some (.row .rw 1 [w64 y0, w64 y1, w64 y2, w64 r0, w64 r1]) ∧ N3 y0 y1 y2 < Q130 ∧ N3 y0 y1 y2 % P130 = polyA (leN (clampB k)) b j) ∧ Fr h.nx h2 H ∧ h2.nx < H.nx) ?_ ?_ ?_
    · obtain ⟨v', H', e1, i1, i2, i3, i4, ⟨y0, y1, y2, i5, hy⟩, i6, i7⟩ := main
      refine ⟨v', H', e1, i1, ?_, ?_, ?_, ⟨y0, y1, y2, ?_, hy⟩, i6.put (by omega) _, i7⟩
      · rw [obj_put, if_neg (by omega)]; exact i2
      · rw [obj_put, if_neg (by omega)]; exact i3
      · rw [obj_put, if_neg (by omega)]; exact i4
      · rw [obj_put, if_neg (by omega)]; exact i5
    · refine ⟨?_, ?_, ?_, ?_, ⟨0#64, 0#64, 0#64, ?_, by decide, ?_⟩, (Fr.refl _ _).push (by omega) _, ?_⟩
      · rw [obj_push, if_pos rfl]
      · rw [obj_push, if_neg (by omega)]; exact p0
      · rw [obj_push, if_neg (by omega)]; exact p1
      · rw [obj_push, if_neg (by omega)]; exact p4
      · rw [obj_push, if_neg (by omega)]; exact p3
      · rw [polyA_zero]; decide
      · rw [nx_push]; omega
    · intro j H o ⟨i1, i2, i3, i4, ⟨y0, y1, y2, i5, hy⟩, i6, i7⟩
      refine ⟨?_, ?_, ?_, ?_, ⟨y0, y1, y2, ?_, hy⟩, i6.put (by omega) _, i7⟩
      · rw [obj_put, if_neg (by omega)]; exact i1
      · rw [obj_put, if_neg (by omega)]; exact i2
      · rw [obj_put, if_neg (by omega)]; exact i3
      · rw [obj_put, if_neg (by omega)]; exact i4
      · rw [obj_put, if_neg (by omega)]; exact i5
    · intro j H w hj ⟨i1, i2, i3, i4, ⟨y0, y1, y2, i5, hyl, hyp⟩, i6, i7⟩ hw
      subst hL0
      refine round_W (d := q + 5) i1 rfl rfl ?_
      dsimp only
      rw [bindA1]
      repeat (first
        | refine R_seq ?_ | refine R_region ?_ | refine R_nil ?_ | refine Q_seq ?_ | refine Q_norm ?_ | refine Q_seqr ?_ | refine Q_seqx ?_ | refine Q_bl ?_ | refine Q_blr ?_ | refine Q_blx ?_ | refine Q_blo rfl ?_ | refine R_block ?_ | refine R_skip ?_ | refine R_exit ?_ | refine R_ret ?_ | refine I_true ?_ | refine I_false ?_ | refine N_exit ?_ | refine N_ret ?_
        | (refine R_draw (by kernel_rfl) ?_)
        | ((first | apply R_op | apply R_op0)
           · ((repeat (first | simp (maxDischargeDepth := 9) only [RA, Nat.reduceEqDiff, Nat.reduceLT, Nat.reduceLeDiff, Nat.reduceAdd, Nat.reduceSub, Nat.reduceMul, Nat.reduceDiv, Nat.reduceMod, Nat.reducePow, Nat.reduceBEq, Nat.reduceGT, reduceIte, T3, T5, T30, T38, T56, T57, T93, T100, T102, T103, T105, T107, cv64_8 Try.underlying93 Try.underlying5] | simp (disch := first | assumption | omega) only [RV])) <;> rfl))
        | (apply R_cond
           · (simp only [RE, Nat.reduceEqDiff, Nat.reduceLT, Nat.reduceLeDiff, Nat.reduceBEq, reduceIte] <;> rfl))
        | (apply R_grd
           · (simp only [yieldedA, RY, Nat.reduceEqDiff, reduceIte] <;> rfl)))
      refine ⟨rfl, i1, ?_⟩
      generalize hL : ALoop.mk _ _ _ _ _ _ = LL
      refine W_heap fun H3 hH3 => ?_
      have oth : ∀ r, r ≠ h2.nx → H3.obj r = H.obj r := fun r hr => by rw [hH3, obj_put, if_neg hr]
      have oL : H3.obj h2.nx = some (.loop LL) := by rw [hH3, obj_put, if_pos rfl]
      have n3 : H3.nx = H.nx := by rw [hH3, nx_put]
      have b3 : By H3 w (blkP b j) := hw.keep (by omega) (fun r hr => by
        rw [hH3, obj_put, if_neg]
        intro e; subst e
        exact hw.not_loop i1 hr)
      clear hH3
      have o4 := oth (h.nx + 4) (by omega)
      rw [i4] at o4
      have o3 := oth (h.nx + 3) (by omega)
      rw [i5] at o3
      repeat (first
        | refine R_seq ?_ | refine R_region ?_ | refine R_nil ?_ | refine Q_seq ?_ | refine Q_norm ?_ | refine Q_seqr ?_ | refine Q_seqx ?_ | refine Q_bl ?_ | refine Q_blr ?_ | refine Q_blx ?_ | refine Q_blo rfl ?_ | refine R_block ?_ | refine R_skip ?_ | refine R_exit ?_ | refine R_ret ?_ | refine I_true ?_ | refine I_false ?_ | refine N_exit ?_ | refine N_ret ?_
        | ((first | apply R_op | apply R_op0)
           · ((repeat (first | simp (maxDischargeDepth := 9) only [RA, Nat.reduceEqDiff, Nat.reduceLT, Nat.reduceLeDiff, Nat.reduceAdd, Nat.reduceSub, Nat.reduceMul, Nat.reduceDiv, Nat.reduceMod, Nat.reducePow, Nat.reduceBEq, Nat.reduceGT, reduceIte, o4, T3, T5, T30, T38, T56, T57, T93, T100, T102, T103, T105, T107, cv64_8 Try.underlying93 Try.underlying5] | simp (disch := first | assumption | omega) only [RV, o4])) <;> rfl))
        | (apply R_cond
           · (simp only [RE, Nat.reduceEqDiff, Nat.reduceLT, Nat.reduceLeDiff, Nat.reduceBEq, reduceIte] <;> rfl))
        | (apply R_grd
           · (simp only [yieldedA, RY, Nat.reduceEqDiff, reduceIte] <;> rfl)))
      have hbl := blk_lt b j
      refine R_fn ?_ (take100 (q + 1) H3 (h.nx + 3) (by omega) y0 y1 y2 [w64 r0, w64 r1] o3 hyl w (blkP b j) b3 (blkP_le b j)) ?_
      · rfl
      intro v4 h4 ⟨⟨z0, z1, z2, o5, e5⟩, n4, f4⟩
      have o44 : h4.obj (h.nx + 4) = some (.row .rw 1 [.pointer (some ⟨h.nx + 3, 0, none⟩)]) := by rw [f4 _ (by omega) (by omega)]; exact o4
      repeat (first
        | refine R_seq ?_ | refine R_region ?_ | refine R_nil ?_ | refine Q_seq ?_ | refine Q_norm ?_ | refine Q_seqr ?_ | refine Q_seqx ?_ | refine Q_bl ?_ | refine Q_blr ?_ | refine Q_blx ?_ | refine Q_blo rfl ?_ | refine R_block ?_ | refine R_skip ?_ | refine R_exit ?_ | refine R_ret ?_ | refine I_true ?_ | refine I_false ?_ | refine N_exit ?_ | refine N_ret ?_
        | ((first | apply R_op | apply R_op0)
           · ((repeat (first | simp (maxDischargeDepth := 9) only [RA, Nat.reduceEqDiff, Nat.reduceLT, Nat.reduceLeDiff, Nat.reduceAdd, Nat.reduceSub, Nat.reduceMul, Nat.reduceDiv, Nat.reduceMod, Nat.reducePow, Nat.reduceBEq, Nat.reduceGT, reduceIte, o44, T3, T5, T30, T38, T56, T57, T93, T100, T102, T103, T105, T107, cv64_8 Try.underlying93 Try.underlying5] | simp (disch := first | assumption | omega) only [RV, o44])) <;> rfl))
        | (apply R_cond
           · (simp only [RE, Nat.reduceEqDiff, Nat.reduceLT, Nat.reduceLeDiff, Nat.reduceBEq, reduceIte] <;> rfl))
        | (apply R_grd
           · (simp only [yieldedA, RY, Nat.reduceEqDiff, reduceIte] <;> rfl)))
      refine R_fn ?_ (times101 (q + 1) h4 (h.nx + 3) (by omega) z0 z1 z2 r0 r1 o5 (by rw [e5]; unfold Q130 at hyl; omega) (by rw [hR]; exact hcb)) ?_
      · rfl
      intro v5 h5 ⟨⟨x0, x1, x2, o6, e6l, e6⟩, n5, f5⟩
      repeat (first
        | refine R_seq ?_ | refine R_region ?_ | refine R_nil ?_ | refine Q_seq ?_ | refine Q_norm ?_ | refine Q_seqr ?_ | refine Q_seqx ?_ | refine Q_bl ?_ | refine Q_blr ?_ | refine Q_blx ?_ | refine Q_blo rfl ?_ | refine R_block ?_ | refine R_skip ?_ | refine R_exit ?_ | refine R_ret ?_ | refine I_true ?_ | refine I_false ?_ | refine N_exit ?_ | refine N_ret ?_
        | ((first | apply R_op | apply R_op0)
           · ((repeat (first | simp (maxDischargeDepth := 9) only [RA, Nat.reduceEqDiff, Nat.reduceLT, Nat.reduceLeDiff, Nat.reduceAdd, Nat.reduceSub, Nat.reduceMul, Nat.reduceDiv, Nat.reduceMod, Nat.reducePow, Nat.reduceBEq, Nat.reduceGT, reduceIte, T3, T5, T30, T38, T56, T57, T93, T100, T102, T103, T105, T107, cv64_8 Try.underlying93 Try.underlying5] | simp (disch := first | assumption | omega) only [RV])) <;> rfl))
        | (apply R_cond
           · (simp only [RE, Nat.reduceEqDiff, Nat.reduceLT, Nat.reduceLeDiff, Nat.reduceBEq, reduceIte] <;> rfl))
        | (apply R_grd
           · (simp only [yieldedA, RY, Nat.reduceEqDiff, reduceIte] <;> rfl)))
      have z : ∀ r, r ≠ h.nx + 3 → r < H3.nx → h5.obj r = H3.obj r := fun r hr hr2 => by rw [f5 r hr (by omega), f4 r hr hr2]
      have zL : h5.obj h2.nx = some (.loop LL) := by rw [z _ (by omega) (by omega)]; exact oL
      refine ⟨rfl, LL, zL, rfl, ⟨?_, ?_, ?_, ?_, ⟨x0, x1, x2, ?_, e6l, ?_⟩, ?_, ?_⟩, ?_, ?_, ?_⟩
      · rw [obj_put, if_pos rfl]
        subst hL
        rfl
      · rw [obj_put, if_neg (by omega), z _ (by omega) (by omega), oth _ (by omega)]; exact i2
      · rw [obj_put, if_neg (by omega), z _ (by omega) (by omega), oth _ (by omega)]; exact i3
      · rw [obj_put, if_neg (by omega), z _ (by omega) (by omega), oth _ (by omega)]; exact i4
      · rw [obj_put, if_neg (by omega)]; exact o6
      · rw [polyA_succ, ← hyp, e6, e5, hR, Nat.mul_mod (N3 y0 y1 y2 % P130 + _), Nat.mod_add_mod, ← Nat.mul_mod]
      · refine i6.trans ⟨?_, fun r hr => ?_⟩
        · simp only [RH]; omega
        · rw [obj_put, if_neg (by omega), z _ (by omega) (by omega)]; exact oth r (by omega)
      · simp only [RH]; omega
      · simp only [RH]; omega
      · rw [obj_put, if_neg (by omega), z _ (by omega) (by omega)]; exact oth _ (by omega)
      · intro r hr
        have := hblt r hr
        rw [obj_put, if_neg (by omega), z _ (by omega) (by omega)]; exact oth _ (by omega)
  · intro h3 ⟨i2, i3, i4, ⟨y0, y1, y2, i5, hyl, hyp⟩, i6, i7⟩
    repeat (first
      | refine R_seq ?_ | refine R_region ?_ | refine R_nil ?_ | refine Q_seq ?_ | refine Q_norm ?_ | refine Q_seqr ?_ | refine Q_seqx ?_ | refine Q_bl ?_ | refine Q_blr ?_ | refine Q_blx ?_ | refine Q_blo rfl ?_ | refine R_block ?_ | refine R_skip ?_ | refine R_exit ?_ | refine R_ret ?_ | refine I_true ?_ | refine I_false ?_ | refine N_exit ?_ | refine N_ret ?_
      | ((first | apply R_op | apply R_op0)
         · ((repeat (first | simp (maxDischargeDepth := 9) only [RA, Nat.reduceEqDiff, Nat.reduceLT, Nat.reduceLeDiff, Nat.reduceAdd, Nat.reduceSub, Nat.reduceMul, Nat.reduceDiv, Nat.reduceMod, Nat.reducePow, Nat.reduceBEq, Nat.reduceGT, reduceIte, i4, T3, T5, T30, T38, T56, T57, T93, T100, T102, T103, T105, T107, cv64_8 Try.underlying93 Try.underlying5] | simp (disch := first | assumption | omega) only [RV, i4])) <;> rfl))
      | (apply R_cond
         · (simp only [RE, Nat.reduceEqDiff, Nat.reduceLT, Nat.reduceLeDiff, Nat.reduceBEq, reduceIte] <;> rfl))
      | (apply R_grd
         · (simp only [yieldedA, RY, Nat.reduceEqDiff, reduceIte] <;> rfl)))
    refine R_fn ?_ (rest102 (q + 3) h3 (h.nx + 3) (by omega) y0 y1 y2 [w64 r0, w64 r1] i5 hyl) ?_
    · rfl
    intro v4 h4 ⟨⟨s0, s1, s2, hv4, e4⟩, F4⟩
    subst hv4
    rw [hyp] at e4
    have n4 := F4.1
    have c1 : (h.nx = h4.nx) = False := eq_false (by omega)
    have c2 : (h.nx + 1 = h4.nx) = False := eq_false (by omega)
    have k4 := F4.2 h.nx (by omega)
    rw [i2] at k4
    have k41 := F4.2 (h.nx + 1) (by omega)
    rw [i3] at k41
    repeat (first
      | refine R_seq ?_ | refine R_region ?_ | refine R_nil ?_ | refine Q_seq ?_ | refine Q_norm ?_ | refine Q_seqr ?_ | refine Q_seqx ?_ | refine Q_bl ?_ | refine Q_blr ?_ | refine Q_blx ?_ | refine Q_blo rfl ?_ | refine R_block ?_ | refine R_skip ?_ | refine R_exit ?_ | refine R_ret ?_ | refine I_true ?_ | refine I_false ?_ | refine N_exit ?_ | refine N_ret ?_
      | ((first | apply R_op | apply R_op0)
         · ((repeat (first | simp (maxDischargeDepth := 9) only [RA, Nat.reduceEqDiff, Nat.reduceLT, Nat.reduceLeDiff, Nat.reduceAdd, Nat.reduceSub, Nat.reduceMul, Nat.reduceDiv, Nat.reduceMod, Nat.reducePow, Nat.reduceBEq, Nat.reduceGT, reduceIte, T3, T5, T30, T38, T56, T57, T93, T100, T102, T103, T105, T107, cv64_8 Try.underlying93 Try.underlying5] | simp (disch := first | assumption | omega) only [RV])) <;> rfl))
      | (apply R_cond
         · (simp only [RE, Nat.reduceEqDiff, Nat.reduceLT, Nat.reduceLeDiff, Nat.reduceBEq, reduceIte] <;> rfl))
      | (apply R_grd
         · (simp only [yieldedA, RY, Nat.reduceEqDiff, reduceIte] <;> rfl)))
    refine W_heap fun H hH => ?_
    have oK : H.obj h.nx = some (.row .rw 1 (b8 k)) := by rw [hH]; simp only [RH, c1, reduceIte]; exact k4
    have oZ : H.obj (h.nx + 1) = some (.row .rw 1 (b8 (List.replicate 16 0#8))) := by rw [hH]; simp only [RH, c2, reduceIte]; exact k41
    have oN : H.obj h4.nx = some (.row .rw 1 [w64 s0, w64 s1, w64 s2]) := by rw [hH]; simp only [RH]; rfl
    have nH2 : H.nx = h4.nx + 1 := by rw [hH]; simp only [RH]
    have FH2 : Fr h4.nx h4 H := by rw [hH]; (repeat (first | assumption | exact Fr.refl _ _ | refine Fr.new ?_ ?_ _ _ _ | refine Fr.put ?_ ?_ _ | omega | (simp only [RH]; omega)))
    clear hH
    have d1 : By H (.slice (some ⟨h.nx, 0 + 16 * 1, none⟩) (24 - 16) (32 - 16)) ((k.drop 16).take 8) := by_sub (by omega) oK (by decide) (by omega) (by simp)
    have d2 : By H (.slice (some ⟨h.nx, 0 + 24 * 1, none⟩) (32 - 24) (32 - 24)) (k.drop 24) := by_sub (by omega) oK (by decide) (by omega) (List.take_of_length_le (by simp; omega))
    have l1 := low98 (q + 5) H _ _ d1 (by simp; omega)
    have l2 := low98 (q + 5) H _ _ d2 (by simp; omega)
    refine D_draw [0, 1, 2, 3] (fun _ => True) (by kernel_rfl) ?_
    repeat (first
      | refine D_nil ?_ | refine I_true ?_ | refine I_false ?_
      | ((first | apply D_op | apply D_op0)
         · ((repeat (first | simp (maxDischargeDepth := 9) only [RA, Nat.reduceEqDiff, Nat.reduceLT, Nat.reduceLeDiff, Nat.reduceAdd, Nat.reduceSub, Nat.reduceMul, Nat.reduceDiv, Nat.reduceMod, Nat.reducePow, Nat.reduceBEq, Nat.reduceGT, reduceIte, l1, l2, T3, T5, T30, T38, T56, T57, T93, T100, T102, T103, T105, T107, cv64_8 Try.underlying93 Try.underlying5] | simp (disch := first | assumption | omega) only [RV, l1, l2])) <;> rfl)
         · (intro hF; first | exact chk_pure rfl | exact chk_alloc rfl | exact chk_read rfl | exact chk_iso iso65 | exact chk_call iso65 (fun _ _ _ => rfl) | exact chk_iso iso98 | exact chk_call iso98 (fun _ _ _ => rfl) | exact chk_iso iso99 | exact chk_call iso99 (fun _ _ _ => rfl) | exact chk_iso iso100 | exact chk_call iso100 (fun _ _ _ => rfl) | exact chk_iso iso101 | exact chk_call iso101 (fun _ _ _ => rfl) | exact chk_iso iso102 | exact chk_call iso102 (fun _ _ _ => rfl) | exact chk_iso iso103 | exact chk_call iso103 (fun _ _ _ => rfl) | (exfalso; revert hF; decide) | ((first | refine chk_load ?_ | refine chk_slice ?_ | refine chk_convert ?_ | refine chk_store ?_ | refine chk_call (by kernel_rfl) ?_); simp only [eq_self, ev_tmp, upd_apply, rowsOfV, List.mem_cons, List.not_mem_nil, or_false, forall_eq, forall_eq_or_imp, obj_put, obj_new, nx_new, nx_put, Nat.reduceEqDiff, if_true, if_false, reduceIte, implies_true, and_self, and_true, true_or, or_true, l1, l2, T3, T5, T30, T38, T56, T57, T93, T100, T102, T103, T105, T107, cv64_8 Try.underlying93 Try.underlying5])))
      | (apply D_grd
         · (simp only [yieldedA, RY, Nat.reduceEqDiff, reduceIte] <;> rfl)))
    have hS := half_N hk
    have hSl : leN ((k.drop 16).take 16) < 340282366920938463463374607431768211456 := by
      have h1 := leN_lt ((k.drop 16).take 16)
      have e1 : ((k.drop 16).take 16).length = 16 := by simp; omega
      have e2 : (256 : Nat) ^ 16 = 340282366920938463463374607431768211456 := by decide
      rw [e1, e2] at h1
      exact h1
    have hPl := polyA_lt (leN (clampB k)) b (polyN b)
    refine D_fn ?_ (add103 (q + 5) H h4.nx s0 s1 s2 _ _ 0#64 [] oN (by rw [hS, e4]; unfold P130 at hPl; omega)) iso103 (fun v4 h4 hp hF => absurd hF (by decide)) ?_
    · rfl
    intro v6 h6 ⟨⟨t0, t1, t2, o6, e6⟩, n6, f6⟩
    have o61 : h6.obj (h.nx + 1) = some (.row .rw 1 (b8 (List.replicate 16 0#8))) := by rw [f6 _ (by omega)]; exact oZ
    have F6 : Fr h.nx h h6 := F2.trans (i6.trans ((F4.le (by omega)).trans ((FH2.le (by omega)).trans ⟨by omega, fun r hr => f6 r (by omega)⟩)))
    rw [hS, e4] at e6
    repeat (first
      | refine D_nil ?_ | refine I_true ?_ | refine I_false ?_
      | ((first | apply D_op | apply D_op0)
         · ((repeat (first | simp (maxDischargeDepth := 9) only [RA, Nat.reduceEqDiff, Nat.reduceLT, Nat.reduceLeDiff, Nat.reduceAdd, Nat.reduceSub, Nat.reduceMul, Nat.reduceDiv, Nat.reduceMod, Nat.reducePow, Nat.reduceBEq, Nat.reduceGT, reduceIte, T3, T5, T30, T38, T56, T57, T93, T100, T102, T103, T105, T107, cv64_8 Try.underlying93 Try.underlying5] | simp (disch := first | assumption | omega) only [RV])) <;> rfl)
         · (intro hF; first | exact chk_pure rfl | exact chk_alloc rfl | exact chk_read rfl | exact chk_iso iso65 | exact chk_call iso65 (fun _ _ _ => rfl) | exact chk_iso iso98 | exact chk_call iso98 (fun _ _ _ => rfl) | exact chk_iso iso99 | exact chk_call iso99 (fun _ _ _ => rfl) | exact chk_iso iso100 | exact chk_call iso100 (fun _ _ _ => rfl) | exact chk_iso iso101 | exact chk_call iso101 (fun _ _ _ => rfl) | exact chk_iso iso102 | exact chk_call iso102 (fun _ _ _ => rfl) | exact chk_iso iso103 | exact chk_call iso103 (fun _ _ _ => rfl) | (exfalso; revert hF; decide) | ((first | refine chk_load ?_ | refine chk_slice ?_ | refine chk_convert ?_ | refine chk_store ?_ | refine chk_call (by kernel_rfl) ?_); simp only [eq_self, ev_tmp, upd_apply, rowsOfV, List.mem_cons, List.not_mem_nil, or_false, forall_eq, forall_eq_or_imp, obj_put, obj_new, nx_new, nx_put, Nat.reduceEqDiff, if_true, if_false, reduceIte, implies_true, and_self, and_true, true_or, or_true, T3, T5, T30, T38, T56, T57, T93, T100, T102, T103, T105, T107, cv64_8 Try.underlying93 Try.underlying5])))
      | (apply D_grd
         · (simp only [yieldedA, RY, Nat.reduceEqDiff, reduceIte] <;> rfl)))
    repeat (first
      | refine R_seq ?_ | refine R_region ?_ | refine R_nil ?_ | refine Q_seq ?_ | refine Q_norm ?_ | refine Q_seqr ?_ | refine Q_seqx ?_ | refine Q_bl ?_ | refine Q_blr ?_ | refine Q_blx ?_ | refine Q_blo rfl ?_ | refine R_block ?_ | refine R_skip ?_ | refine R_exit ?_ | refine R_ret ?_ | refine I_true ?_ | refine I_false ?_ | refine N_exit ?_ | refine N_ret ?_
      | ((first | apply R_op | apply R_op0)
         · ((repeat (first | simp (maxDischargeDepth := 9) only [RA, Nat.reduceEqDiff, Nat.reduceLT, Nat.reduceLeDiff, Nat.reduceAdd, Nat.reduceSub, Nat.reduceMul, Nat.reduceDiv, Nat.reduceMod, Nat.reducePow, Nat.reduceBEq, Nat.reduceGT, reduceIte, T3, T5, T30, T38, T56, T57, T93, T100, T102, T103, T105, T107, cv64_8 Try.underlying93 Try.underlying5] | simp (disch := first | assumption | omega) only [RV])) <;> rfl))
      | (apply R_cond
         · (simp only [RE, Nat.reduceEqDiff, Nat.reduceLT, Nat.reduceLeDiff, Nat.reduceBEq, reduceIte] <;> rfl))
      | (apply R_grd
         · (simp only [yieldedA, RY, Nat.reduceEqDiff, reduceIte] <;> rfl)))
    have c3 : (h.nx + 1 = h6.nx) = False := eq_false (by omega)
    have c4 : (h4.nx = h6.nx) = False := eq_false (by omega)
    have c5 : (h6.nx = h.nx + 1) = False := eq_false (by omega)
    refine W_loopK [4, 8, 9] [h4.nx, h.nx + 1] (fun i e7 h7 => e7 37 = iv i ∧ h7.obj h6.nx = some (.row .rw 1 (b8 (leB (N3 t0 t1 t2) i ++ List.replicate (16 - i) 0#8))) ∧ Fr h6.nx h6 h7) 16 (by decide) ?_ ?_ ?_
    · refine ⟨by (try simp only [List.map_cons, List.map_nil, RH, Nat.reduceAdd, Nat.reduceEqDiff, reduceIte, ev_tmp, ev_const, lit_iv, lit_w8, lit_w32, lit_w64, envOf0, envOf1, envOf2, envOf3, envOf4, envOf5, T3, T5, T30, T38, T56, T57, T93, T100, T102, T103, T105, T107, cv64_8 Try.underlying93 Try.underlying5]), ?_, by (repeat (first | assumption | exact Fr.refl _ _ | refine Fr.new ?_ ?_ _ _ _ | refine Fr.put ?_ ?_ _ | omega | (simp only [RH]; omega)))⟩
      simp only [RH]; rfl
    · intro i hi e7 h7 hK hO hN ⟨j37, o7, F7⟩
      simp only [List.map_cons, List.map_nil, List.cons.injEq, and_true, RH, Nat.reduceAdd, Nat.reduceEqDiff, reduceIte, envOf0, envOf1, envOf2, envOf3, envOf4, envOf5, c3, c4, o6, o61] at hK
      obtain ⟨K0_4, K0_8, K0_9⟩ := hK
      simp only [List.map_cons, List.map_nil, List.cons.injEq, and_true, RH, Nat.reduceAdd, Nat.reduceEqDiff, reduceIte, envOf0, envOf1, envOf2, envOf3, envOf4, envOf5, c3, c4, o6, o61] at hO
      obtain ⟨O0_0, O0_1⟩ := hO
      try simp only [RH] at hN
      have hx : ([w64 t0, w64 t1, w64 t2] : List Value)[i / 8]? = some (w64 (if i < 8 then t0 else t1)) := by
        by_cases h8 : i < 8
        · rw [if_pos h8, show i / 8 = 0 by omega]; rfl
        · rw [if_neg h8, show i / 8 = 1 by omega]; rfl
      have hl7 : (leB (N3 t0 t1 t2) i ++ List.replicate (16 - i) 0#8).length = 16 := by rw [List.length_append, leB_length, List.length_replicate]; omega
      have hi8 : i / 8 < 3 := by omega
      have hwb := word_byte t0 t1 t2 hi
      repeat (first
        | refine R_seq ?_ | refine R_region ?_ | refine R_nil ?_ | refine Q_seq ?_ | refine Q_norm ?_ | refine Q_seqr ?_ | refine Q_seqx ?_ | refine Q_bl ?_ | refine Q_blr ?_ | refine Q_blx ?_ | refine Q_blo rfl ?_ | refine R_block ?_ | refine R_skip ?_ | refine R_exit ?_ | refine R_ret ?_ | refine I_true ?_ | refine I_false ?_ | refine N_exit ?_ | refine N_ret ?_
        | ((first | apply R_op | apply R_op0)
           · ((repeat (first | simp (maxDischargeDepth := 9) only [RA, Nat.reduceEqDiff, Nat.reduceLT, Nat.reduceLeDiff, Nat.reduceAdd, Nat.reduceSub, Nat.reduceMul, Nat.reduceDiv, Nat.reduceMod, Nat.reducePow, Nat.reduceBEq, Nat.reduceGT, reduceIte, j37, hi, hx, o7, hl7, hi8, hwb, T3, T5, T30, T38, T56, T57, T93, T100, T102, T103, T105, T107, cv64_8 Try.underlying93 Try.underlying5, K0_4, K0_8, K0_9, O0_0, O0_1] | simp (disch := first | assumption | omega) only [RV, j37, hi, hx, o7, hl7, hi8, hwb, K0_4, K0_8, K0_9, O0_0, O0_1])) <;> rfl))
        | (apply R_cond
           · (simp only [RE, Nat.reduceEqDiff, Nat.reduceLT, Nat.reduceLeDiff, Nat.reduceBEq, reduceIte] <;> rfl))
        | (apply R_grd
           · (simp only [yieldedA, RY, Nat.reduceEqDiff, reduceIte] <;> rfl)))
      refine ⟨rfl, by first | rfl | simp only [List.map_cons, List.map_nil, RH, Nat.reduceAdd, Nat.reduceEqDiff, reduceIte, c3, c4, T3, T5, T30, T38, T56, T57, T93, T100, T102, T103, T105, T107, cv64_8 Try.underlying93 Try.underlying5, K0_4, K0_8, K0_9, O0_0, O0_1], by first | rfl | simp only [List.map_cons, List.map_nil, RH, Nat.reduceAdd, Nat.reduceEqDiff, reduceIte, c3, c4, T3, T5, T30, T38, T56, T57, T93, T100, T102, T103, T105, T107, cv64_8 Try.underlying93 Try.underlying5, K0_4, K0_8, K0_9, O0_0, O0_1], by first | (simp only [RH, c3, c4, T3, T5, T30, T38, T56, T57, T93, T100, T102, T103, T105, T107, cv64_8 Try.underlying93 Try.underlying5, K0_4, K0_8, K0_9, O0_0, O0_1]; done) | ((try simp only [RH, c3, c4, T3, T5, T30, T38, T56, T57, T93, T100, T102, T103, T105, T107, cv64_8 Try.underlying93 Try.underlying5, K0_4, K0_8, K0_9, O0_0, O0_1]); omega), ?_⟩
      refine ⟨by (try simp only [List.map_cons, List.map_nil, RH, Nat.reduceAdd, Nat.reduceEqDiff, reduceIte, ev_tmp, ev_const, lit_iv, lit_w8, lit_w32, lit_w64, envOf0, envOf1, envOf2, envOf3, envOf4, envOf5, T3, T5, T30, T38, T56, T57, T93, T100, T102, T103, T105, T107, cv64_8 Try.underlying93 Try.underlying5, K0_4, K0_8, K0_9, O0_0, O0_1]), ?_, by (repeat (first | assumption | exact Fr.refl _ _ | refine Fr.new ?_ ?_ _ _ _ | refine Fr.put ?_ ?_ _ | omega | (simp only [RH]; omega)))⟩
      simp only [RH]
      rw [leB_set _ _ hi]
    · intro e7 h7 hK hO hN ⟨j37, o7, F7⟩
      simp only [List.map_cons, List.map_nil, List.cons.injEq, and_true, RH, Nat.reduceAdd, Nat.reduceEqDiff, reduceIte, envOf0, envOf1, envOf2, envOf3, envOf4, envOf5, c3, c4, o6, o61] at hK
      obtain ⟨K0_4, K0_8, K0_9⟩ := hK
      simp only [List.map_cons, List.map_nil, List.cons.injEq, and_true, RH, Nat.reduceAdd, Nat.reduceEqDiff, reduceIte, envOf0, envOf1, envOf2, envOf3, envOf4, envOf5, c3, c4, o6, o61] at hO
      obtain ⟨O0_0, O0_1⟩ := hO
      try simp only [RH] at hN
      have e16 : leB (N3 t0 t1 t2) 16 ++ List.replicate (16 - 16) 0#8 = polyT k b := by
        rw [e6]; unfold polyT; exact List.append_nil _
      rw [e16] at o7
      have hpl := polyT_length k b
      repeat (first
        | refine R_seq ?_ | refine R_region ?_ | refine R_nil ?_ | refine Q_seq ?_ | refine Q_norm ?_ | refine Q_seqr ?_ | refine Q_seqx ?_ | refine Q_bl ?_ | refine Q_blr ?_ | refine Q_blx ?_ | refine Q_blo rfl ?_ | refine R_block ?_ | refine R_skip ?_ | refine R_exit ?_ | refine R_ret ?_ | refine I_true ?_ | refine I_false ?_ | refine N_exit ?_ | refine N_ret ?_
        | ((first | apply R_op | apply R_op0)
           · ((repeat (first | simp (maxDischargeDepth := 9) only [RA, Nat.reduceEqDiff, Nat.reduceLT, Nat.reduceLeDiff, Nat.reduceAdd, Nat.reduceSub, Nat.reduceMul, Nat.reduceDiv, Nat.reduceMod, Nat.reducePow, Nat.reduceBEq, Nat.reduceGT, reduceIte, j37, o7, hpl, cut8 hpl, puts8 hpl (List.length_replicate (n := 16) (a := 0#8)), c3, c4, c5, T3, T5, T30, T38, T56, T57, T93, T100, T102, T103, T105, T107, cv64_8 Try.underlying93 Try.underlying5, K0_4, K0_8, K0_9, O0_0, O0_1] | simp (disch := first | assumption | omega) only [RV, j37, o7, hpl, cut8 hpl, puts8 hpl (List.length_replicate (n := 16) (a := 0#8)), c3, c4, c5, K0_4, K0_8, K0_9, O0_0, O0_1])) <;> rfl))
        | (apply R_cond
           · (simp only [RE, Nat.reduceEqDiff, Nat.reduceLT, Nat.reduceLeDiff, Nat.reduceBEq, reduceIte] <;> rfl))
        | (apply R_grd
           · (simp only [yieldedA, RY, Nat.reduceEqDiff, reduceIte] <;> rfl)))
      (first | refine ⟨.inr rfl, ?_⟩ | refine ⟨.inl rfl, ?_⟩)
      simp only [evResultList, evResult, RA, Nat.reduceEqDiff, Nat.reduceLT, Nat.reduceLeDiff, Nat.reduceAdd, Nat.reduceSub, Nat.reduceMul, Nat.reduceDiv, Nat.reduceMod, Nat.reducePow, Nat.reduceBEq, Nat.reduceGT, reduceIte, cut8 hpl, T3, T5, T30, T38, T56, T57, T93, T100, T102, T103, T105, T107, cv64_8 Try.underlying93 Try.underlying5, K0_4, K0_8, K0_9, O0_0, O0_1]
      refine ⟨_, rfl, ?_⟩
      exact ⟨rfl, (F6.trans (F7.le (by omega))).put (by omega) _⟩
end Go.Proofs.Ytfehhihllenjiaa
