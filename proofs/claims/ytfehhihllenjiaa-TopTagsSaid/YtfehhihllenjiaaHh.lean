/- The digest: the sum. -/
import Derived.Test.YtfehhihllenjiaaHg
import Derived.Test.YtfehhihllenjiaaC6
set_option linter.all false
namespace Go.Proofs.Ytfehhihllenjiaa
open Go.Proofs
attribute [local irreducible] evOps iter evD evF evC evLoad evStore evAlloc evIndexAddr evIndex evLenB evBox evBin evUn evConvert evExtract evSlice evAppend evCopy evNil evBuild evMakeSlice evBuildSlice evBuiltin Program.underlying
attribute [local irreducible] padS padN St.l stAt shaStep outB outS filled blk
theorem inl92 : inlOf Try.prog 92 = true := by kernel_rfl
theorem iso92 : isoOf Try.prog 92 = false := by kernel_rfl
theorem blocks92 (q : Nat) (h : Heap) (a : Option Addr) (n c : Nat) : ∃ v' h', fcall Try.prog (q + 1) (.func (.func 92) #[] #[]) [.slice a n c] h = some (.ok v', h') ∧ v' = .func (.func 115) #[] #[.pointer (some ⟨h.nx, 0, none⟩)] ∧ h' = newRowH h .rw 1 [.slice a n c] := by
  rw [fcall_inl inl92 iso92, evF_eq Try.func92 rfl]
  apply evEnd_of_W
  simp only [Try.f92]
  repeat (first
    | refine R_seq ?_ | refine R_region ?_ | refine R_nil ?_ | refine Q_seq ?_ | refine Q_norm ?_ | refine Q_seqr ?_ | refine Q_seqx ?_ | refine Q_bl ?_ | refine Q_blr ?_ | refine Q_blx ?_ | refine Q_blo rfl ?_ | refine R_block ?_ | refine R_skip ?_ | refine R_exit ?_ | refine R_ret ?_ | refine I_true ?_ | refine I_false ?_ | refine N_exit ?_ | refine N_ret ?_
    | (refine R_draw (by kernel_rfl) ?_)
    | ((first | apply R_op | apply R_op0)
       · (first | (simp (maxDischargeDepth := 9) only [RA, Nat.reduceEqDiff, Nat.reduceLT, Nat.reduceLeDiff, Nat.reduceAdd, Nat.reduceSub, Nat.reduceMul, Nat.reduceDiv, Nat.reduceMod, Nat.reducePow, Nat.reduceBEq, Nat.reduceGT, reduceIte, box_one (v := .slice a n c) rfl rfl, T38] <;> rfl) | ((repeat (first | (simp (maxDischargeDepth := 9) only [RA, Nat.reduceEqDiff, Nat.reduceLT, Nat.reduceLeDiff, Nat.reduceAdd, Nat.reduceSub, Nat.reduceMul, Nat.reduceDiv, Nat.reduceMod, Nat.reducePow, Nat.reduceBEq, Nat.reduceGT, reduceIte, box_one (v := .slice a n c) rfl rfl, T38]; done) | simp (maxDischargeDepth := 9) only [RA, Nat.reduceEqDiff, Nat.reduceLT, Nat.reduceLeDiff, Nat.reduceAdd, Nat.reduceSub, Nat.reduceMul, Nat.reduceDiv, Nat.reduceMod, Nat.reducePow, Nat.reduceBEq, Nat.reduceGT, reduceIte, box_one (v := .slice a n c) rfl rfl, T38] | simp (disch := first | assumption | omega) only [RV, box_one (v := .slice a n c) rfl rfl, T38])) <;> rfl)))
    | (apply R_cond
       · (simp only [RE, Nat.reduceEqDiff, Nat.reduceLT, Nat.reduceLeDiff, Nat.reduceBEq, reduceIte, box_one (v := .slice a n c) rfl rfl, T38] <;> rfl))
    | (apply R_grd
       · (simp only [yieldedA, RY, Nat.reduceEqDiff, reduceIte, box_one (v := .slice a n c) rfl rfl, T38] <;> rfl)))
  refine ⟨.inr rfl, _, rfl, ?_, rfl⟩
  (try simp only [List.map_cons, List.map_nil, RH, Nat.reduceAdd, Nat.reduceEqDiff, reduceIte, ev_tmp, ev_const, lit_iv, lit_w8, lit_w32, lit_w64, envOf0, envOf1, envOf2, envOf3, envOf4, envOf5, packR, T38])
theorem inl115 : inlOf Try.prog 115 = true := by kernel_rfl
theorem iso115 : isoOf Try.prog 115 = false := by kernel_rfl
set_option maxRecDepth 20000 in
set_option maxHeartbeats 8000000 in
theorem clo115 (q l p : Nat) (h : Heap) (v : Value) (xs : List (BitVec 8)) (N : Nat) (hN : xs.length = 64 * N) (hN2 : N < 1099511627776) (hop : h.obj p = some (.row .rw 1 [v])) (hb : By h v xs) (hpv : p ∉ rowsOfV v) (I : Nat → Heap → Prop) (hI0 : I 0 h)
    (hst : ∀ k H o, I k H → I k (H.put p o))
    (hy : ∀ k H w, k < N → I k H → By H w (blk xs k) → ∃ v' H', fcall Try.prog q (.func (.yield l) #[] #[]) [w] H = some (.ok v', H') ∧ v' = .bool true ∧ I (k + 1) H' ∧ H.nx ≤ H'.nx ∧ H'.obj p = H.obj p ∧ ∀ r ∈ rowsOfV v, H'.obj r = H.obj r) :
    ∃ v' H', fcall Try.prog (q + 1) (.func (.func 115) #[] #[.pointer (some ⟨p, 0, none⟩)]) [.func (.yield l) #[] #[]] h = some (.ok v', H') ∧ I N H' := by
  rw [fcall_clo inl115 iso115, evF_eq Try.func115 rfl]
  apply evEnd_of_W
  simp only [Try.f115, List.nil_append, List.cons_append]
  repeat (first
    | refine R_seq ?_ | refine R_region ?_ | refine R_nil ?_ | refine Q_seq ?_ | refine Q_norm ?_ | refine Q_seqr ?_ | refine Q_seqx ?_ | refine Q_bl ?_ | refine Q_blr ?_ | refine Q_blx ?_ | refine Q_blo rfl ?_ | refine R_block ?_ | refine R_skip ?_ | refine R_exit ?_ | refine R_ret ?_ | refine I_true ?_ | refine I_false ?_ | refine N_exit ?_ | refine N_ret ?_
    | (refine R_draw (by kernel_rfl) ?_)
    | ((first | apply R_op | apply R_op0)
       · (first | (simp (maxDischargeDepth := 9) only [RA, Nat.reduceEqDiff, Nat.reduceLT, Nat.reduceLeDiff, Nat.reduceAdd, Nat.reduceSub, Nat.reduceMul, Nat.reduceDiv, Nat.reduceMod, Nat.reducePow, Nat.reduceBEq, Nat.reduceGT, reduceIte, T3, T4, T38] <;> rfl) | ((repeat (first | (simp (maxDischargeDepth := 9) only [RA, Nat.reduceEqDiff, Nat.reduceLT, Nat.reduceLeDiff, Nat.reduceAdd, Nat.reduceSub, Nat.reduceMul, Nat.reduceDiv, Nat.reduceMod, Nat.reducePow, Nat.reduceBEq, Nat.reduceGT, reduceIte, T3, T4, T38]; done) | simp (maxDischargeDepth := 9) only [RA, Nat.reduceEqDiff, Nat.reduceLT, Nat.reduceLeDiff, Nat.reduceAdd, Nat.reduceSub, Nat.reduceMul, Nat.reduceDiv, Nat.reduceMod, Nat.reducePow, Nat.reduceBEq, Nat.reduceGT, reduceIte, T3, T4, T38] | simp (disch := first | assumption | omega) only [RV, T3, T4, T38])) <;> rfl)))
    | (apply R_cond
       · (simp only [RE, Nat.reduceEqDiff, Nat.reduceLT, Nat.reduceLeDiff, Nat.reduceBEq, reduceIte, T3, T4, T38] <;> rfl))
    | (apply R_grd
       · (simp only [yieldedA, RY, Nat.reduceEqDiff, reduceIte, T3, T4, T38] <;> rfl)))
  refine W_loopK [0, 1] [] (fun k e1 h1 => ∃ w, h1.obj p = some (.row .rw 1 [w]) ∧ By h1 w (xs.drop (64 * k)) ∧ (∀ r ∈ rowsOfV w, r ∈ rowsOfV v) ∧ I k h1) N (by omega) ?_ ?_ ?_
  · exact ⟨v, hop, by simpa using hb, fun r hr => hr, hI0⟩
  · intro k hk e1 h1 hK hO hN1 ⟨w, o1, b1, r1, I1⟩
    have hN := hN1
    simp only [List.map_cons, List.map_nil, List.cons.injEq, and_true, RH, Nat.reduceAdd, Nat.reduceEqDiff, reduceIte, envOf0, envOf1, envOf2, envOf3, envOf4, envOf5] at hK
    obtain ⟨K0_0, K0_1⟩ := hK
    try simp only [RH] at hN
    have hge : 64 ≤ (xs.drop (64 * k)).length := by rw [List.length_drop]; omega
    have s1 := S38hm (hh := 64) (mm := 64) b1 fr_refl hge (Nat.le_refl _) hge
    have hsub : By h1 (subS 1 0 64 (some 64) w) (blk xs k) := by
      have := By.subh (mx := some 64) (hh := 64) b1 hge (fun m hm => by cases hm; exact Nat.le_refl _)
      unfold blk; exact this
    repeat (first
      | refine R_seq ?_ | refine R_region ?_ | refine R_nil ?_ | refine Q_seq ?_ | refine Q_norm ?_ | refine Q_seqr ?_ | refine Q_seqx ?_ | refine Q_bl ?_ | refine Q_blr ?_ | refine Q_blx ?_ | refine Q_blo rfl ?_ | refine R_block ?_ | refine R_skip ?_ | refine R_exit ?_ | refine R_ret ?_ | refine I_true ?_ | refine I_false ?_ | refine N_exit ?_ | refine N_ret ?_
      | ((first | apply R_op | apply R_op0)
         · (first | (simp (maxDischargeDepth := 9) only [RA, Nat.reduceEqDiff, Nat.reduceLT, Nat.reduceLeDiff, Nat.reduceAdd, Nat.reduceSub, Nat.reduceMul, Nat.reduceDiv, Nat.reduceMod, Nat.reducePow, Nat.reduceBEq, Nat.reduceGT, reduceIte, o1, S38len b1, hge, s1, T3, T4, T38, K0_0, K0_1] <;> rfl) | ((repeat (first | (simp (maxDischargeDepth := 9) only [RA, Nat.reduceEqDiff, Nat.reduceLT, Nat.reduceLeDiff, Nat.reduceAdd, Nat.reduceSub, Nat.reduceMul, Nat.reduceDiv, Nat.reduceMod, Nat.reducePow, Nat.reduceBEq, Nat.reduceGT, reduceIte, o1, S38len b1, hge, s1, T3, T4, T38, K0_0, K0_1]; done) | simp (maxDischargeDepth := 9) only [RA, Nat.reduceEqDiff, Nat.reduceLT, Nat.reduceLeDiff, Nat.reduceAdd, Nat.reduceSub, Nat.reduceMul, Nat.reduceDiv, Nat.reduceMod, Nat.reducePow, Nat.reduceBEq, Nat.reduceGT, reduceIte, o1, S38len b1, hge, s1, T3, T4, T38, K0_0, K0_1] | simp (disch := first | assumption | omega) only [RV, o1, S38len b1, hge, s1, T3, T4, T38, K0_0, K0_1])) <;> rfl)))
      | (apply R_cond
         · (simp only [RE, Nat.reduceEqDiff, Nat.reduceLT, Nat.reduceLeDiff, Nat.reduceBEq, reduceIte, o1, S38len b1, hge, s1, T3, T4, T38, K0_0, K0_1] <;> rfl))
      | (apply R_grd
         · (simp only [yieldedA, RY, Nat.reduceEqDiff, reduceIte, o1, S38len b1, hge, s1, T3, T4, T38, K0_0, K0_1] <;> rfl)))
    obtain ⟨v2, h2, e2, rfl, I2, n2, p2, r2⟩ := hy k h1 _ hk I1 hsub
    refine R_call (p := fun v H => v = .bool true ∧ H = h2) ⟨_, _, ?_, rfl, rfl⟩ ?_
    · rw [op_call]
      refine Eq.trans ?_ e2
      first | rfl | (first | rw [ev_tmp] | rw [ev_const] | skip) <;> simp only [upd_apply, Nat.reduceEqDiff, if_true, if_false, reduceIte, lit_iv, lit_w8, K0_0, K0_1]
    intro v3 h3 ⟨hv, hh⟩
    subst hv hh
    have b2 : By h3 w (xs.drop (64 * k)) := b1.keep n2 (fun r hr => r2 r (r1 r hr))
    have s2 := S38l (l := 64) b2 fr_refl hge
    rw [o1] at p2
    have b3 := By.subl (l := 64) b2 hge
    rw [List.drop_drop] at b3
    obtain ⟨a3, c3, hs3⟩ := sl_shape b3
    have r3 : ∀ r ∈ rowsOfV (subS 1 64 (xs.drop (64 * k)).length none w), r ∈ rowsOfV v := fun r hr => r1 r (Sl.sub_rows r hr)
    rw [hs3] at s2 b3 r3
    repeat (first
      | refine R_seq ?_ | refine R_region ?_ | refine R_nil ?_ | refine Q_seq ?_ | refine Q_norm ?_ | refine Q_seqr ?_ | refine Q_seqx ?_ | refine Q_bl ?_ | refine Q_blr ?_ | refine Q_blx ?_ | refine Q_blo rfl ?_ | refine R_block ?_ | refine R_skip ?_ | refine R_exit ?_ | refine R_ret ?_ | refine I_true ?_ | refine I_false ?_ | refine N_exit ?_ | refine N_ret ?_
      | ((first | apply R_op | apply R_op0)
         · (first | (simp (maxDischargeDepth := 9) only [RA, Nat.reduceEqDiff, Nat.reduceLT, Nat.reduceLeDiff, Nat.reduceAdd, Nat.reduceSub, Nat.reduceMul, Nat.reduceDiv, Nat.reduceMod, Nat.reducePow, Nat.reduceBEq, Nat.reduceGT, reduceIte, p2, s2, T3, T4, T38, K0_0, K0_1] <;> rfl) | ((repeat (first | (simp (maxDischargeDepth := 9) only [RA, Nat.reduceEqDiff, Nat.reduceLT, Nat.reduceLeDiff, Nat.reduceAdd, Nat.reduceSub, Nat.reduceMul, Nat.reduceDiv, Nat.reduceMod, Nat.reducePow, Nat.reduceBEq, Nat.reduceGT, reduceIte, p2, s2, T3, T4, T38, K0_0, K0_1]; done) | simp (maxDischargeDepth := 9) only [RA, Nat.reduceEqDiff, Nat.reduceLT, Nat.reduceLeDiff, Nat.reduceAdd, Nat.reduceSub, Nat.reduceMul, Nat.reduceDiv, Nat.reduceMod, Nat.reducePow, Nat.reduceBEq, Nat.reduceGT, reduceIte, p2, s2, T3, T4, T38, K0_0, K0_1] | simp (disch := first | assumption | omega) only [RV, p2, s2, T3, T4, T38, K0_0, K0_1])) <;> rfl)))
      | (apply R_cond
         · (simp only [RE, Nat.reduceEqDiff, Nat.reduceLT, Nat.reduceLeDiff, Nat.reduceBEq, reduceIte, p2, s2, T3, T4, T38, K0_0, K0_1] <;> rfl))
      | (apply R_grd
         · (simp only [yieldedA, RY, Nat.reduceEqDiff, reduceIte, p2, s2, T3, T4, T38, K0_0, K0_1] <;> rfl)))
    refine ⟨rfl, by first | rfl | first | rfl | (first | rw [ev_tmp] | rw [ev_const] | skip) <;> simp only [upd_apply, Nat.reduceEqDiff, if_true, if_false, reduceIte, lit_iv, lit_w8, K0_0, K0_1], rfl, by simp only [RH]; omega, .slice a3 (xs.drop (64 * k + 64)).length c3, ?_, ?_, ?_, hst _ _ _ I2⟩
    · simp only [RH]
    · refine Sl.keep (h := h3) ?_ (Nat.le_refl _) (fun r hr => by rw [obj_put, if_neg]; intro e; subst e; exact hpv (r3 _ hr))
      rw [show 64 * (k + 1) = 64 * k + 64 by omega]
      exact b3
    · exact r3
  · intro e1 h1 hK hO hN1 ⟨w, o1, b1, r1, I1⟩
    have hN := hN1
    simp only [List.map_cons, List.map_nil, List.cons.injEq, and_true, RH, Nat.reduceAdd, Nat.reduceEqDiff, reduceIte, envOf0, envOf1, envOf2, envOf3, envOf4, envOf5] at hK
    obtain ⟨K0_0, K0_1⟩ := hK
    try simp only [RH] at hN
    have hlt : ¬ 64 ≤ (xs.drop (64 * N)).length := by rw [List.length_drop]; omega
    repeat (first
      | refine R_seq ?_ | refine R_region ?_ | refine R_nil ?_ | refine Q_seq ?_ | refine Q_norm ?_ | refine Q_seqr ?_ | refine Q_seqx ?_ | refine Q_bl ?_ | refine Q_blr ?_ | refine Q_blx ?_ | refine Q_blo rfl ?_ | refine R_block ?_ | refine R_skip ?_ | refine R_exit ?_ | refine R_ret ?_ | refine I_true ?_ | refine I_false ?_ | refine N_exit ?_ | refine N_ret ?_
      | ((first | apply R_op | apply R_op0)
         · (first | (simp (maxDischargeDepth := 9) only [RA, Nat.reduceEqDiff, Nat.reduceLT, Nat.reduceLeDiff, Nat.reduceAdd, Nat.reduceSub, Nat.reduceMul, Nat.reduceDiv, Nat.reduceMod, Nat.reducePow, Nat.reduceBEq, Nat.reduceGT, reduceIte, o1, S38len b1, hlt, T3, T4, T38, K0_0, K0_1] <;> rfl) | ((repeat (first | (simp (maxDischargeDepth := 9) only [RA, Nat.reduceEqDiff, Nat.reduceLT, Nat.reduceLeDiff, Nat.reduceAdd, Nat.reduceSub, Nat.reduceMul, Nat.reduceDiv, Nat.reduceMod, Nat.reducePow, Nat.reduceBEq, Nat.reduceGT, reduceIte, o1, S38len b1, hlt, T3, T4, T38, K0_0, K0_1]; done) | simp (maxDischargeDepth := 9) only [RA, Nat.reduceEqDiff, Nat.reduceLT, Nat.reduceLeDiff, Nat.reduceAdd, Nat.reduceSub, Nat.reduceMul, Nat.reduceDiv, Nat.reduceMod, Nat.reducePow, Nat.reduceBEq, Nat.reduceGT, reduceIte, o1, S38len b1, hlt, T3, T4, T38, K0_0, K0_1] | simp (disch := first | assumption | omega) only [RV, o1, S38len b1, hlt, T3, T4, T38, K0_0, K0_1])) <;> rfl)))
      | (apply R_cond
         · (simp only [RE, Nat.reduceEqDiff, Nat.reduceLT, Nat.reduceLeDiff, Nat.reduceBEq, reduceIte, o1, S38len b1, hlt, T3, T4, T38, K0_0, K0_1] <;> rfl))
      | (apply R_grd
         · (simp only [yieldedA, RY, Nat.reduceEqDiff, reduceIte, o1, S38len b1, hlt, T3, T4, T38, K0_0, K0_1] <;> rfl)))
    exact ⟨.inl rfl, _, rfl, I1⟩
theorem inl52 : inlOf Try.prog 52 = true := by kernel_rfl
theorem iso52 : isoOf Try.prog 52 = false := by kernel_rfl
set_option maxRecDepth 20000 in
set_option maxHeartbeats 8000000 in
theorem sum52 (q : Nat) (h : Heap) (v : Value) (b : List (BitVec 8)) (hb : By h v b) (hl : b.length ≤ 2147483648) :
    ∃ v' h', fcall Try.prog (q + 7) (.func (.func 52) #[] #[]) [v] h = some (.ok v', h') ∧ v' = .agg ⟨b8 (sumS b)⟩ ∧ Fr h.nx h h' := by
  rw [fcall_inl inl52 iso52, evF_eq Try.func52 rfl]
  apply evEnd_of_W
  simp only [Try.f52]
  have hNge := padN_ge b.length
  have hNle : padN b.length ≤ b.length + 72 := by unfold padN; omega
  have hN64 : padN b.length = 64 * (padN b.length / 64) := by unfold padN; omega
  have hpl := padS_length b
  have hps := fun (H : Heap) (p : Nat) (s s' : St) => puts32 (h := H) (b := p) (es := 1) (St.l_length s) (St.l_length s')
  have hps0 := fun (H : Heap) (p : Nat) (s : St) => puts32 (h := H) (b := p) (es := 1) (St.l_length s) (List.length_replicate (n := 8) (a := 0#32))
  have hcs := fun (kd : Kind) (es : Nat) (s : St) => cut32 (k := kd) (es := es) (St.l_length s)
  repeat (first
    | refine R_seq ?_ | refine R_region ?_ | refine R_nil ?_ | refine Q_seq ?_ | refine Q_norm ?_ | refine Q_seqr ?_ | refine Q_seqx ?_ | refine Q_bl ?_ | refine Q_blr ?_ | refine Q_blx ?_ | refine Q_blo rfl ?_ | refine R_block ?_ | refine R_skip ?_ | refine R_exit ?_ | refine R_ret ?_ | refine I_true ?_ | refine I_false ?_ | refine N_exit ?_ | refine N_ret ?_
    | (refine R_draw (by kernel_rfl) ?_)
    | ((first | apply R_op | apply R_op0)
       · (first | (simp (maxDischargeDepth := 9) only [RA, Nat.reduceEqDiff, Nat.reduceLT, Nat.reduceLeDiff, Nat.reduceAdd, Nat.reduceSub, Nat.reduceMul, Nat.reduceDiv, Nat.reduceMod, Nat.reducePow, Nat.reduceBEq, Nat.reduceGT, reduceIte, start56 (q + 5), rep32, hps0, T3, T5, T22, T30, T38, T48, cv32_8 Try.underlying22 Try.underlying5] <;> rfl) | ((repeat (first | (simp (maxDischargeDepth := 9) only [RA, Nat.reduceEqDiff, Nat.reduceLT, Nat.reduceLeDiff, Nat.reduceAdd, Nat.reduceSub, Nat.reduceMul, Nat.reduceDiv, Nat.reduceMod, Nat.reducePow, Nat.reduceBEq, Nat.reduceGT, reduceIte, start56 (q + 5), rep32, hps0, T3, T5, T22, T30, T38, T48, cv32_8 Try.underlying22 Try.underlying5]; done) | simp (maxDischargeDepth := 9) only [RA, Nat.reduceEqDiff, Nat.reduceLT, Nat.reduceLeDiff, Nat.reduceAdd, Nat.reduceSub, Nat.reduceMul, Nat.reduceDiv, Nat.reduceMod, Nat.reducePow, Nat.reduceBEq, Nat.reduceGT, reduceIte, start56 (q + 5), rep32, hps0, T3, T5, T22, T30, T38, T48, cv32_8 Try.underlying22 Try.underlying5] | simp (disch := first | assumption | omega) only [RV, start56 (q + 5), rep32, hps0, T3, T5, T22, T30, T38, T48, cv32_8 Try.underlying22 Try.underlying5])) <;> rfl)))
    | (apply R_cond
       · (simp only [RE, Nat.reduceEqDiff, Nat.reduceLT, Nat.reduceLeDiff, Nat.reduceBEq, reduceIte, start56 (q + 5), rep32, hps0, T3, T5, T22, T30, T38, T48, cv32_8 Try.underlying22 Try.underlying5] <;> rfl))
    | (apply R_grd
       · (simp only [yieldedA, RY, Nat.reduceEqDiff, reduceIte, start56 (q + 5), rep32, hps0, T3, T5, T22, T30, T38, T48, cv32_8 Try.underlying22 Try.underlying5] <;> rfl)))
  refine O_heap fun H hH => ?_
  have FH : Fr h.nx h H := by
    rw [hH]; (repeat (first | assumption | exact Fr.refl _ _ | refine Fr.new ?_ ?_ _ _ _ | refine Fr.put ?_ ?_ _ | omega | (simp only [RH]; omega)))
  have nH : h.nx + 2 = H.nx := by rw [hH]; simp [RH]
  have o0 : H.obj h.nx = some (.row .rw 1 (b8 (List.replicate 32 0#8))) := by rw [hH]; simp [RH, rep8]
  have o1 : H.obj (h.nx + 1) = some (.row .rw 1 (b32 start.l)) := by rw [hH]; simp [RH]
  clear hH
  refine R_fn ?_ (pad54 (q + 5) H v b (hb.fr0 FH) hl) ?_
  · rfl
  intro v1 h1 ⟨own1, F1⟩
  have n1 := F1.1
  obtain ⟨a1, c1, hv1⟩ := sl_shape own1.sl
  have hr0 := own1.rows
  rw [← nH] at hr0
  subst hv1
  refine R_fn ?_ (blocks92 (q + 5) h1 a1 (padS b).length c1) ?_
  · rfl
  intro v2 h2 ⟨hv2, hh2⟩
  subst hv2
  have q0 := F1.2 h.nx (by omega)
  have q1 := F1.2 (h.nx + 1) (by omega)
  rw [o0] at q0
  rw [o1] at q1
  have F2 : Fr h1.nx h1 h2 := by rw [hh2]; (repeat (first | assumption | exact Fr.refl _ _ | refine Fr.new ?_ ?_ _ _ _ | refine Fr.put ?_ ?_ _ | omega | (simp only [RH]; omega)))
  have n2 : h1.nx + 1 = h2.nx := by rw [hh2]; simp [RH]
  have o2 : h2.obj h1.nx = some (.row .rw 1 [.slice a1 (padS b).length c1]) := by rw [hh2]; simp [RH]
  have p0 := F2.2 h.nx (by omega)
  have p1 := F2.2 (h.nx + 1) (by omega)
  rw [q0] at p0
  rw [q1] at p1
  clear hh2
  have b2 : By h2 (.slice a1 (padS b).length c1) (padS b) := own1.sl.fr0 F2
  repeat (first
    | refine R_seq ?_ | refine R_region ?_ | refine R_nil ?_ | refine Q_seq ?_ | refine Q_norm ?_ | refine Q_seqr ?_ | refine Q_seqx ?_ | refine Q_bl ?_ | refine Q_blr ?_ | refine Q_blx ?_ | refine Q_blo rfl ?_ | refine R_block ?_ | refine R_skip ?_ | refine R_exit ?_ | refine R_ret ?_ | refine I_true ?_ | refine I_false ?_ | refine N_exit ?_ | refine N_ret ?_
    | (refine R_draw (by kernel_rfl) ?_)
    | ((first | apply R_op | apply R_op0)
       · (first | (simp (maxDischargeDepth := 9) only [RA, Nat.reduceEqDiff, Nat.reduceLT, Nat.reduceLeDiff, Nat.reduceAdd, Nat.reduceSub, Nat.reduceMul, Nat.reduceDiv, Nat.reduceMod, Nat.reducePow, Nat.reduceBEq, Nat.reduceGT, reduceIte, T3, T5, T22, T30, T38, T48, cv32_8 Try.underlying22 Try.underlying5] <;> rfl) | ((repeat (first | (simp (maxDischargeDepth := 9) only [RA, Nat.reduceEqDiff, Nat.reduceLT, Nat.reduceLeDiff, Nat.reduceAdd, Nat.reduceSub, Nat.reduceMul, Nat.reduceDiv, Nat.reduceMod, Nat.reducePow, Nat.reduceBEq, Nat.reduceGT, reduceIte, T3, T5, T22, T30, T38, T48, cv32_8 Try.underlying22 Try.underlying5]; done) | simp (maxDischargeDepth := 9) only [RA, Nat.reduceEqDiff, Nat.reduceLT, Nat.reduceLeDiff, Nat.reduceAdd, Nat.reduceSub, Nat.reduceMul, Nat.reduceDiv, Nat.reduceMod, Nat.reducePow, Nat.reduceBEq, Nat.reduceGT, reduceIte, T3, T5, T22, T30, T38, T48, cv32_8 Try.underlying22 Try.underlying5] | simp (disch := first | assumption | omega) only [RV, T3, T5, T22, T30, T38, T48, cv32_8 Try.underlying22 Try.underlying5])) <;> rfl)))
    | (apply R_cond
       · (simp only [RE, Nat.reduceEqDiff, Nat.reduceLT, Nat.reduceLeDiff, Nat.reduceBEq, reduceIte, T3, T5, T22, T30, T38, T48, cv32_8 Try.underlying22 Try.underlying5] <;> rfl))
    | (apply R_grd
       · (simp only [yieldedA, RY, Nat.reduceEqDiff, reduceIte, T3, T5, T22, T30, T38, T48, cv32_8 Try.underlying22 Try.underlying5] <;> rfl)))
  refine R_range2 (g := 115) (first := #[]) (cap := #[.pointer (some ⟨h1.nx, 0, none⟩)]) (p := fun H => H.obj h.nx = some (.row .rw 1 (b8 (List.replicate 32 0#8))) ∧ H.obj (h.nx + 1) = some (.row .rw 1 (b32 (stAt (padS b) (padN b.length / 64)).l)) ∧ Fr h.nx h2 H ∧ h2.nx < H.nx) ?_ ?_ ?_
  · first | rfl | (first | rw [ev_tmp] | rw [ev_const] | skip) <;> simp only [upd_apply, Nat.reduceEqDiff, if_true, if_false, reduceIte, lit_iv, lit_w8]
  · intro L0 hL0
    have main := clo115 (q + 5) h2.nx h1.nx (h2.push (.loop L0)) (.slice a1 (padS b).length c1) (padS b) (padN b.length / 64) (by rw [hpl]; exact hN64) (by omega) (by rw [obj_push, if_neg (by omega)]; exact o2)
      (b2.keep (by rw [nx_push]; omega) (fun r hr => by have := own1.rows r hr; rw [obj_push, if_neg (by omega)])) (fun hr => by have := own1.rows _ hr; omega)
      (fun k H => H.obj h2.nx = some (.loop L0) ∧ H.obj h.nx = some (.row .rw 1 (b8 (List.replicate 32 0#8))) ∧ H.obj (h.nx + 1) = some (.row .rw 1 (b32 (stAt (padS b) k).l)) ∧ Fr h.nx h2 H ∧ h2.nx < H.nx) ?_ ?_ ?_
    · obtain ⟨v', H', e1, i1, i2, i3, i4, i5⟩ := main
      refine ⟨v', H', e1, i1, ?_, ?_, i4.put (by omega) _, i5⟩
      · rw [obj_put, if_neg (by omega)]; exact i2
      · rw [obj_put, if_neg (by omega)]; exact i3
    · refine ⟨?_, ?_, ?_, (Fr.refl _ _).push (by omega) _, ?_⟩
      · rw [obj_push, if_pos rfl]
      · rw [obj_push, if_neg (by omega)]; exact p0
      · rw [obj_push, if_neg (by omega), p1]
        have e0 : stAt (padS b) 0 = start := by unfold stAt; rfl
        rw [e0]
      · rw [nx_push]; omega
    · intro k H o ⟨i1, i2, i3, i4, i5⟩
      refine ⟨?_, ?_, ?_, i4.put (by omega) _, i5⟩
      · rw [obj_put, if_neg (by omega)]; exact i1
      · rw [obj_put, if_neg (by omega)]; exact i2
      · rw [obj_put, if_neg (by omega)]; exact i3
    · intro k H w hk ⟨i1, i2, i3, i4, i5⟩ hw
      subst hL0
      refine round_W (d := q + 4) i1 rfl rfl ?_
      dsimp only
      rw [bindA1]
      repeat (first
        | refine R_seq ?_ | refine R_region ?_ | refine R_nil ?_ | refine Q_seq ?_ | refine Q_norm ?_ | refine Q_seqr ?_ | refine Q_seqx ?_ | refine Q_bl ?_ | refine Q_blr ?_ | refine Q_blx ?_ | refine Q_blo rfl ?_ | refine R_block ?_ | refine R_skip ?_ | refine R_exit ?_ | refine R_ret ?_ | refine I_true ?_ | refine I_false ?_ | refine N_exit ?_ | refine N_ret ?_
        | (refine R_draw (by kernel_rfl) ?_)
        | ((first | apply R_op | apply R_op0)
           · (first | (simp (maxDischargeDepth := 9) only [RA, Nat.reduceEqDiff, Nat.reduceLT, Nat.reduceLeDiff, Nat.reduceAdd, Nat.reduceSub, Nat.reduceMul, Nat.reduceDiv, Nat.reduceMod, Nat.reducePow, Nat.reduceBEq, Nat.reduceGT, reduceIte, T3, T5, T22, T30, T38, T48, cv32_8 Try.underlying22 Try.underlying5] <;> rfl) | ((repeat (first | (simp (maxDischargeDepth := 9) only [RA, Nat.reduceEqDiff, Nat.reduceLT, Nat.reduceLeDiff, Nat.reduceAdd, Nat.reduceSub, Nat.reduceMul, Nat.reduceDiv, Nat.reduceMod, Nat.reducePow, Nat.reduceBEq, Nat.reduceGT, reduceIte, T3, T5, T22, T30, T38, T48, cv32_8 Try.underlying22 Try.underlying5]; done) | simp (maxDischargeDepth := 9) only [RA, Nat.reduceEqDiff, Nat.reduceLT, Nat.reduceLeDiff, Nat.reduceAdd, Nat.reduceSub, Nat.reduceMul, Nat.reduceDiv, Nat.reduceMod, Nat.reducePow, Nat.reduceBEq, Nat.reduceGT, reduceIte, T3, T5, T22, T30, T38, T48, cv32_8 Try.underlying22 Try.underlying5] | simp (disch := first | assumption | omega) only [RV, T3, T5, T22, T30, T38, T48, cv32_8 Try.underlying22 Try.underlying5])) <;> rfl)))
        | (apply R_cond
           · (simp only [RE, Nat.reduceEqDiff, Nat.reduceLT, Nat.reduceLeDiff, Nat.reduceBEq, reduceIte, T3, T5, T22, T30, T38, T48, cv32_8 Try.underlying22 Try.underlying5] <;> rfl))
        | (apply R_grd
           · (simp only [yieldedA, RY, Nat.reduceEqDiff, reduceIte, T3, T5, T22, T30, T38, T48, cv32_8 Try.underlying22 Try.underlying5] <;> rfl)))
      refine ⟨rfl, i1, ?_⟩
      generalize hL : ALoop.mk _ _ _ _ _ _ = LL
      refine W_heap fun H3 hH3 => ?_
      have o3 : H3.obj (h.nx + 1) = some (.row .rw 1 (b32 (stAt (padS b) k).l)) := by rw [hH3, obj_put, if_neg (by omega)]; exact i3
      have o0' : H3.obj h.nx = some (.row .rw 1 (b8 (List.replicate 32 0#8))) := by rw [hH3, obj_put, if_neg (by omega)]; exact i2
      have oL : H3.obj h2.nx = some (.loop LL) := by rw [hH3, obj_put, if_pos rfl]
      have n3 : H3.nx = H.nx := by rw [hH3, nx_put]
      have b3 : By H3 w (blk (padS b) k) := hw.keep (by omega) (fun r hr => by
        rw [hH3, obj_put, if_neg]
        intro e; subst e
        exact hw.not_loop i1 hr)
      have oth : ∀ r, r ≠ h2.nx → H3.obj r = H.obj r := fun r hr => by rw [hH3, obj_put, if_neg hr]
      clear hH3
      repeat (first
        | refine R_seq ?_ | refine R_region ?_ | refine R_nil ?_ | refine Q_seq ?_ | refine Q_norm ?_ | refine Q_seqr ?_ | refine Q_seqx ?_ | refine Q_bl ?_ | refine Q_blr ?_ | refine Q_blx ?_ | refine Q_blo rfl ?_ | refine R_block ?_ | refine R_skip ?_ | refine R_exit ?_ | refine R_ret ?_ | refine I_true ?_ | refine I_false ?_ | refine N_exit ?_ | refine N_ret ?_
        | (refine R_draw (by kernel_rfl) ?_)
        | ((first | apply R_op | apply R_op0)
           · (first | (simp (maxDischargeDepth := 9) only [RA, Nat.reduceEqDiff, Nat.reduceLT, Nat.reduceLeDiff, Nat.reduceAdd, Nat.reduceSub, Nat.reduceMul, Nat.reduceDiv, Nat.reduceMod, Nat.reducePow, Nat.reduceBEq, Nat.reduceGT, reduceIte, o3, hcs, T3, T5, T22, T30, T38, T48, cv32_8 Try.underlying22 Try.underlying5] <;> rfl) | ((repeat (first | (simp (maxDischargeDepth := 9) only [RA, Nat.reduceEqDiff, Nat.reduceLT, Nat.reduceLeDiff, Nat.reduceAdd, Nat.reduceSub, Nat.reduceMul, Nat.reduceDiv, Nat.reduceMod, Nat.reducePow, Nat.reduceBEq, Nat.reduceGT, reduceIte, o3, hcs, T3, T5, T22, T30, T38, T48, cv32_8 Try.underlying22 Try.underlying5]; done) | simp (maxDischargeDepth := 9) only [RA, Nat.reduceEqDiff, Nat.reduceLT, Nat.reduceLeDiff, Nat.reduceAdd, Nat.reduceSub, Nat.reduceMul, Nat.reduceDiv, Nat.reduceMod, Nat.reducePow, Nat.reduceBEq, Nat.reduceGT, reduceIte, o3, hcs, T3, T5, T22, T30, T38, T48, cv32_8 Try.underlying22 Try.underlying5] | simp (disch := first | assumption | omega) only [RV, o3, hcs, T3, T5, T22, T30, T38, T48, cv32_8 Try.underlying22 Try.underlying5])) <;> rfl)))
        | (apply R_cond
           · (simp only [RE, Nat.reduceEqDiff, Nat.reduceLT, Nat.reduceLeDiff, Nat.reduceBEq, reduceIte, o3, hcs, T3, T5, T22, T30, T38, T48, cv32_8 Try.underlying22 Try.underlying5] <;> rfl))
        | (apply R_grd
           · (simp only [yieldedA, RY, Nat.reduceEqDiff, reduceIte, o3, hcs, T3, T5, T22, T30, T38, T48, cv32_8 Try.underlying22 Try.underlying5] <;> rfl)))
      refine R_fn ?_ (step58 q _ (stAt (padS b) k) _ _ b3) ?_
      · rfl
      intro v4 h4 ⟨hv4, F4⟩
      subst hv4
      have n4 := F4.1
      have z1 := F4.2 (h.nx + 1) (by omega)
      rw [o3] at z1
      repeat (first
        | refine R_seq ?_ | refine R_region ?_ | refine R_nil ?_ | refine Q_seq ?_ | refine Q_norm ?_ | refine Q_seqr ?_ | refine Q_seqx ?_ | refine Q_bl ?_ | refine Q_blr ?_ | refine Q_blx ?_ | refine Q_blo rfl ?_ | refine R_block ?_ | refine R_skip ?_ | refine R_exit ?_ | refine R_ret ?_ | refine I_true ?_ | refine I_false ?_ | refine N_exit ?_ | refine N_ret ?_
        | ((first | apply R_op | apply R_op0)
           · (first | (simp (maxDischargeDepth := 9) only [RA, Nat.reduceEqDiff, Nat.reduceLT, Nat.reduceLeDiff, Nat.reduceAdd, Nat.reduceSub, Nat.reduceMul, Nat.reduceDiv, Nat.reduceMod, Nat.reducePow, Nat.reduceBEq, Nat.reduceGT, reduceIte, z1, hps, T3, T5, T22, T30, T38, T48, cv32_8 Try.underlying22 Try.underlying5] <;> rfl) | ((repeat (first | (simp (maxDischargeDepth := 9) only [RA, Nat.reduceEqDiff, Nat.reduceLT, Nat.reduceLeDiff, Nat.reduceAdd, Nat.reduceSub, Nat.reduceMul, Nat.reduceDiv, Nat.reduceMod, Nat.reducePow, Nat.reduceBEq, Nat.reduceGT, reduceIte, z1, hps, T3, T5, T22, T30, T38, T48, cv32_8 Try.underlying22 Try.underlying5]; done) | simp (maxDischargeDepth := 9) only [RA, Nat.reduceEqDiff, Nat.reduceLT, Nat.reduceLeDiff, Nat.reduceAdd, Nat.reduceSub, Nat.reduceMul, Nat.reduceDiv, Nat.reduceMod, Nat.reducePow, Nat.reduceBEq, Nat.reduceGT, reduceIte, z1, hps, T3, T5, T22, T30, T38, T48, cv32_8 Try.underlying22 Try.underlying5] | simp (disch := first | assumption | omega) only [RV, z1, hps, T3, T5, T22, T30, T38, T48, cv32_8 Try.underlying22 Try.underlying5])) <;> rfl)))
        | (apply R_cond
           · (simp only [RE, Nat.reduceEqDiff, Nat.reduceLT, Nat.reduceLeDiff, Nat.reduceBEq, reduceIte, z1, hps, T3, T5, T22, T30, T38, T48, cv32_8 Try.underlying22 Try.underlying5] <;> rfl))
        | (apply R_grd
           · (simp only [yieldedA, RY, Nat.reduceEqDiff, reduceIte, z1, hps, T3, T5, T22, T30, T38, T48, cv32_8 Try.underlying22 Try.underlying5] <;> rfl)))
      have zL : (h4.put (h.nx + 1) (some (.row .rw 1 (b32 (shaStep (stAt (padS b) k) (blk (padS b) k)).l)))).obj h2.nx = some (.loop LL) := by
        rw [obj_put, if_neg (by omega), F4.2 _ (by omega)]; exact oL
      refine ⟨rfl, LL, zL, rfl, ?_, ?_, ?_, ?_⟩
      · refine ⟨?_, ?_, ?_, ?_, ?_⟩
        · rw [obj_put, if_pos rfl]
          subst hL
          rfl
        · rw [obj_put, if_neg (by omega), obj_put, if_neg (by omega), F4.2 _ (by omega)]; exact o0'
        · rw [obj_put, if_neg (by omega), obj_put, if_pos rfl]
          have e1 : stAt (padS b) (k + 1) = shaStep (stAt (padS b) k) (blk (padS b) k) := by
            conv => lhs; unfold stAt
          rw [e1]
        · refine i4.trans ⟨?_, fun r hr => ?_⟩
          · simp only [RH]; omega
          · rw [obj_put, if_neg (by omega), obj_put, if_neg (by omega), F4.2 _ (by omega)]; exact oth r (by omega)
        · simp only [RH]; omega
      · simp only [RH]; omega
      · rw [obj_put, if_neg (by omega), obj_put, if_neg (by omega), F4.2 _ (by omega)]; exact oth _ (by omega)
      · intro r hr
        have := hr0 r hr
        rw [obj_put, if_neg (by omega), obj_put, if_neg (by omega), F4.2 _ (by omega)]; exact oth _ (by omega)
  · intro h3 ⟨i1, i2, i3, i4⟩
    have n3 := i3.1
    have c0 : (h.nx = h3.nx) = False := eq_false (by omega)
    have c1 : (h.nx + 1 = h3.nx) = False := eq_false (by omega)
    repeat (first
      | refine R_seq ?_ | refine R_region ?_ | refine R_nil ?_ | refine Q_seq ?_ | refine Q_norm ?_ | refine Q_seqr ?_ | refine Q_seqx ?_ | refine Q_bl ?_ | refine Q_blr ?_ | refine Q_blx ?_ | refine Q_blo rfl ?_ | refine R_block ?_ | refine R_skip ?_ | refine R_exit ?_ | refine R_ret ?_ | refine I_true ?_ | refine I_false ?_ | refine N_exit ?_ | refine N_ret ?_
      | (refine R_draw (by kernel_rfl) ?_)
      | ((first | apply R_op | apply R_op0)
         · (first | (simp (maxDischargeDepth := 9) only [RA, Nat.reduceEqDiff, Nat.reduceLT, Nat.reduceLeDiff, Nat.reduceAdd, Nat.reduceSub, Nat.reduceMul, Nat.reduceDiv, Nat.reduceMod, Nat.reducePow, Nat.reduceBEq, Nat.reduceGT, reduceIte, i2, hcs, c0, c1, T3, T5, T22, T30, T38, T48, cv32_8 Try.underlying22 Try.underlying5] <;> rfl) | ((repeat (first | (simp (maxDischargeDepth := 9) only [RA, Nat.reduceEqDiff, Nat.reduceLT, Nat.reduceLeDiff, Nat.reduceAdd, Nat.reduceSub, Nat.reduceMul, Nat.reduceDiv, Nat.reduceMod, Nat.reducePow, Nat.reduceBEq, Nat.reduceGT, reduceIte, i2, hcs, c0, c1, T3, T5, T22, T30, T38, T48, cv32_8 Try.underlying22 Try.underlying5]; done) | simp (maxDischargeDepth := 9) only [RA, Nat.reduceEqDiff, Nat.reduceLT, Nat.reduceLeDiff, Nat.reduceAdd, Nat.reduceSub, Nat.reduceMul, Nat.reduceDiv, Nat.reduceMod, Nat.reducePow, Nat.reduceBEq, Nat.reduceGT, reduceIte, i2, hcs, c0, c1, T3, T5, T22, T30, T38, T48, cv32_8 Try.underlying22 Try.underlying5] | simp (disch := first | assumption | omega) only [RV, i2, hcs, c0, c1, T3, T5, T22, T30, T38, T48, cv32_8 Try.underlying22 Try.underlying5])) <;> rfl)))
      | (apply R_cond
         · (simp only [RE, Nat.reduceEqDiff, Nat.reduceLT, Nat.reduceLeDiff, Nat.reduceBEq, reduceIte, i2, hcs, c0, c1, T3, T5, T22, T30, T38, T48, cv32_8 Try.underlying22 Try.underlying5] <;> rfl))
      | (apply R_grd
         · (simp only [yieldedA, RY, Nat.reduceEqDiff, reduceIte, i2, hcs, c0, c1, T3, T5, T22, T30, T38, T48, cv32_8 Try.underlying22 Try.underlying5] <;> rfl)))
    have hsum : sumS b = filled (outB (stAt (padS b) (padN b.length / 64))) 0#8 32 32 := by rw [outS_eq]; rfl
    generalize stAt (padS b) (padN b.length / 64) = sF at i2 hsum
    refine W_loopK [2, 5, 17] [h.nx] (fun i e4 h4 => e4 18 = iv i ∧ h4.obj h3.nx = some (.row .rw 1 (b8 (filled (outB sF) 0#8 32 (4 * i)))) ∧ Fr h3.nx h3 h4) 8 (by decide) ?_ ?_ ?_
    · refine ⟨by (try simp only [List.map_cons, List.map_nil, RH, Nat.reduceAdd, Nat.reduceEqDiff, reduceIte, ev_tmp, ev_const, lit_iv, lit_w8, lit_w32, lit_w64, envOf0, envOf1, envOf2, envOf3, envOf4, envOf5, T3, T5, T22, T30, T38, T48, cv32_8 Try.underlying22 Try.underlying5]), ?_, by (repeat (first | assumption | exact Fr.refl _ _ | refine Fr.new ?_ ?_ _ _ _ | refine Fr.put ?_ ?_ _ | omega | (simp only [RH]; omega)))⟩
      (try simp only [List.map_cons, List.map_nil, RH, Nat.reduceAdd, Nat.reduceEqDiff, reduceIte, ev_tmp, ev_const, lit_iv, lit_w8, lit_w32, lit_w64, envOf0, envOf1, envOf2, envOf3, envOf4, envOf5, rep8, T3, T5, T22, T30, T38, T48, cv32_8 Try.underlying22 Try.underlying5])
      unfold filled; rfl
    · intro i hi e4 h4 hK hO hN ⟨j18, o4, F4⟩
      simp only [List.map_cons, List.map_nil, List.cons.injEq, and_true, RH, Nat.reduceAdd, Nat.reduceEqDiff, reduceIte, envOf0, envOf1, envOf2, envOf3, envOf4, envOf5, c0, c1, i1] at hK
      obtain ⟨K0_2, K0_5, K0_17⟩ := hK
      simp only [List.map_cons, List.map_nil, List.cons.injEq, and_true, RH, Nat.reduceAdd, Nat.reduceEqDiff, reduceIte, envOf0, envOf1, envOf2, envOf3, envOf4, envOf5, c0, c1, i1] at hO
      have O0_0 := hO
      try simp only [RH] at hN
      have hsl := St.l_length sF
      have hil : i < sF.l.length := by omega
      repeat (first
        | refine R_seq ?_ | refine R_region ?_ | refine R_nil ?_ | refine Q_seq ?_ | refine Q_norm ?_ | refine Q_seqr ?_ | refine Q_seqx ?_ | refine Q_bl ?_ | refine Q_blr ?_ | refine Q_blx ?_ | refine Q_blo rfl ?_ | refine R_block ?_ | refine R_skip ?_ | refine R_exit ?_ | refine R_ret ?_ | refine I_true ?_ | refine I_false ?_ | refine N_exit ?_ | refine N_ret ?_
        | (refine R_draw (by kernel_rfl) ?_)
        | ((first | apply R_op | apply R_op0)
           · (first | (simp (maxDischargeDepth := 9) only [RA, Nat.reduceEqDiff, Nat.reduceLT, Nat.reduceLeDiff, Nat.reduceAdd, Nat.reduceSub, Nat.reduceMul, Nat.reduceDiv, Nat.reduceMod, Nat.reducePow, Nat.reduceBEq, Nat.reduceGT, reduceIte, j18, hi, ix48 hi, idx32 hil, T3, T5, T22, T30, T38, T48, cv32_8 Try.underlying22 Try.underlying5, K0_2, K0_5, K0_17, O0_0] <;> rfl) | ((repeat (first | (simp (maxDischargeDepth := 9) only [RA, Nat.reduceEqDiff, Nat.reduceLT, Nat.reduceLeDiff, Nat.reduceAdd, Nat.reduceSub, Nat.reduceMul, Nat.reduceDiv, Nat.reduceMod, Nat.reducePow, Nat.reduceBEq, Nat.reduceGT, reduceIte, j18, hi, ix48 hi, idx32 hil, T3, T5, T22, T30, T38, T48, cv32_8 Try.underlying22 Try.underlying5, K0_2, K0_5, K0_17, O0_0]; done) | simp (maxDischargeDepth := 9) only [RA, Nat.reduceEqDiff, Nat.reduceLT, Nat.reduceLeDiff, Nat.reduceAdd, Nat.reduceSub, Nat.reduceMul, Nat.reduceDiv, Nat.reduceMod, Nat.reducePow, Nat.reduceBEq, Nat.reduceGT, reduceIte, j18, hi, ix48 hi, idx32 hil, T3, T5, T22, T30, T38, T48, cv32_8 Try.underlying22 Try.underlying5, K0_2, K0_5, K0_17, O0_0] | simp (disch := first | assumption | omega) only [RV, j18, hi, ix48 hi, idx32 hil, T3, T5, T22, T30, T38, T48, cv32_8 Try.underlying22 Try.underlying5, K0_2, K0_5, K0_17, O0_0])) <;> rfl)))
        | (apply R_cond
           · (simp only [RE, Nat.reduceEqDiff, Nat.reduceLT, Nat.reduceLeDiff, Nat.reduceBEq, reduceIte, j18, hi, ix48 hi, idx32 hil, T3, T5, T22, T30, T38, T48, cv32_8 Try.underlying22 Try.underlying5, K0_2, K0_5, K0_17, O0_0] <;> rfl))
        | (apply R_grd
           · (simp only [yieldedA, RY, Nat.reduceEqDiff, reduceIte, j18, hi, ix48 hi, idx32 hil, T3, T5, T22, T30, T38, T48, cv32_8 Try.underlying22 Try.underlying5, K0_2, K0_5, K0_17, O0_0] <;> rfl)))
      refine W_loopK [2, 5, 6, 7, 17, 18] [h.nx] (fun j e5 h5 => e5 22 = iv j ∧ h5.obj h3.nx = some (.row .rw 1 (b8 (filled (outB sF) 0#8 32 (4 * i + j)))) ∧ Fr h3.nx h3 h5) 4 (by decide) ?_ ?_ ?_
      · exact ⟨by (try simp only [List.map_cons, List.map_nil, RH, Nat.reduceAdd, Nat.reduceEqDiff, reduceIte, ev_tmp, ev_const, lit_iv, lit_w8, lit_w32, lit_w64, envOf0, envOf1, envOf2, envOf3, envOf4, envOf5, T3, T5, T22, T30, T38, T48, cv32_8 Try.underlying22 Try.underlying5, K0_2, K0_5, K0_17, O0_0]), o4, F4⟩
      · intro j hj e5 h5 hK hO hN ⟨j22, o5, F5⟩
        simp only [List.map_cons, List.map_nil, List.cons.injEq, and_true, RH, Nat.reduceAdd, Nat.reduceEqDiff, reduceIte, envOf0, envOf1, envOf2, envOf3, envOf4, envOf5, j18, K0_2, K0_5, K0_17, O0_0] at hK
        obtain ⟨K1_2, K1_5, K1_6, K1_7, K1_17, K1_18⟩ := hK
        simp only [List.map_cons, List.map_nil, List.cons.injEq, and_true, RH, Nat.reduceAdd, Nat.reduceEqDiff, reduceIte, envOf0, envOf1, envOf2, envOf3, envOf4, envOf5, j18, K0_2, K0_5, K0_17, O0_0] at hO
        have O1_0 := hO
        try simp only [RH] at hN
        have hfl : (filled (outB sF) 0#8 32 (4 * i + j)).length = 32 := filled_length _ _ (by omega)
        have h32 : 4 * i + j < 32 := by omega
        repeat (first
          | refine R_seq ?_ | refine R_region ?_ | refine R_nil ?_ | refine Q_seq ?_ | refine Q_norm ?_ | refine Q_seqr ?_ | refine Q_seqx ?_ | refine Q_bl ?_ | refine Q_blr ?_ | refine Q_blx ?_ | refine Q_blo rfl ?_ | refine R_block ?_ | refine R_skip ?_ | refine R_exit ?_ | refine R_ret ?_ | refine I_true ?_ | refine I_false ?_ | refine N_exit ?_ | refine N_ret ?_
          | (refine R_draw (by kernel_rfl) ?_)
          | ((first | apply R_op | apply R_op0)
             · (first | (simp (maxDischargeDepth := 9) only [RA, Nat.reduceEqDiff, Nat.reduceLT, Nat.reduceLeDiff, Nat.reduceAdd, Nat.reduceSub, Nat.reduceMul, Nat.reduceDiv, Nat.reduceMod, Nat.reducePow, Nat.reduceBEq, Nat.reduceGT, reduceIte, j22, o5, hj, hfl, h32, c0, c1, T3, T5, T22, T30, T38, T48, cv32_8 Try.underlying22 Try.underlying5, K0_2, K0_5, K0_17, O0_0, K1_2, K1_5, K1_6, K1_7, K1_17, K1_18, O1_0] <;> rfl) | ((repeat (first | (simp (maxDischargeDepth := 9) only [RA, Nat.reduceEqDiff, Nat.reduceLT, Nat.reduceLeDiff, Nat.reduceAdd, Nat.reduceSub, Nat.reduceMul, Nat.reduceDiv, Nat.reduceMod, Nat.reducePow, Nat.reduceBEq, Nat.reduceGT, reduceIte, j22, o5, hj, hfl, h32, c0, c1, T3, T5, T22, T30, T38, T48, cv32_8 Try.underlying22 Try.underlying5, K0_2, K0_5, K0_17, O0_0, K1_2, K1_5, K1_6, K1_7, K1_17, K1_18, O1_0]; done) | simp (maxDischargeDepth := 9) only [RA, Nat.reduceEqDiff, Nat.reduceLT, Nat.reduceLeDiff, Nat.reduceAdd, Nat.reduceSub, Nat.reduceMul, Nat.reduceDiv, Nat.reduceMod, Nat.reducePow, Nat.reduceBEq, Nat.reduceGT, reduceIte, j22, o5, hj, hfl, h32, c0, c1, T3, T5, T22, T30, T38, T48, cv32_8 Try.underlying22 Try.underlying5, K0_2, K0_5, K0_17, O0_0, K1_2, K1_5, K1_6, K1_7, K1_17, K1_18, O1_0] | simp (disch := first | assumption | omega) only [RV, j22, o5, hj, hfl, h32, c0, c1, T3, T5, T22, T30, T38, T48, cv32_8 Try.underlying22 Try.underlying5, K0_2, K0_5, K0_17, O0_0, K1_2, K1_5, K1_6, K1_7, K1_17, K1_18, O1_0])) <;> rfl)))
          | (apply R_cond
             · (simp only [RE, Nat.reduceEqDiff, Nat.reduceLT, Nat.reduceLeDiff, Nat.reduceBEq, reduceIte, j22, o5, hj, hfl, h32, c0, c1, T3, T5, T22, T30, T38, T48, cv32_8 Try.underlying22 Try.underlying5, K0_2, K0_5, K0_17, O0_0, K1_2, K1_5, K1_6, K1_7, K1_17, K1_18, O1_0] <;> rfl))
          | (apply R_grd
             · (simp only [yieldedA, RY, Nat.reduceEqDiff, reduceIte, j22, o5, hj, hfl, h32, c0, c1, T3, T5, T22, T30, T38, T48, cv32_8 Try.underlying22 Try.underlying5, K0_2, K0_5, K0_17, O0_0, K1_2, K1_5, K1_6, K1_7, K1_17, K1_18, O1_0] <;> rfl)))
        refine ⟨rfl, by first | rfl | simp only [List.map_cons, List.map_nil, RH, Nat.reduceAdd, Nat.reduceEqDiff, reduceIte, c0, c1, T3, T5, T22, T30, T38, T48, cv32_8 Try.underlying22 Try.underlying5, K0_2, K0_5, K0_17, O0_0, K1_2, K1_5, K1_6, K1_7, K1_17, K1_18, O1_0], by first | rfl | simp only [List.map_cons, List.map_nil, RH, Nat.reduceAdd, Nat.reduceEqDiff, reduceIte, c0, c1, T3, T5, T22, T30, T38, T48, cv32_8 Try.underlying22 Try.underlying5, K0_2, K0_5, K0_17, O0_0, K1_2, K1_5, K1_6, K1_7, K1_17, K1_18, O1_0], by first | (simp only [RH, c0, c1, T3, T5, T22, T30, T38, T48, cv32_8 Try.underlying22 Try.underlying5, K0_2, K0_5, K0_17, O0_0, K1_2, K1_5, K1_6, K1_7, K1_17, K1_18, O1_0]; done) | ((try simp only [RH, c0, c1, T3, T5, T22, T30, T38, T48, cv32_8 Try.underlying22 Try.underlying5, K0_2, K0_5, K0_17, O0_0, K1_2, K1_5, K1_6, K1_7, K1_17, K1_18, O1_0]); omega), ?_⟩
        refine ⟨by (try simp only [List.map_cons, List.map_nil, RH, Nat.reduceAdd, Nat.reduceEqDiff, reduceIte, ev_tmp, ev_const, lit_iv, lit_w8, lit_w32, lit_w64, envOf0, envOf1, envOf2, envOf3, envOf4, envOf5, T3, T5, T22, T30, T38, T48, cv32_8 Try.underlying22 Try.underlying5, K0_2, K0_5, K0_17, O0_0, K1_2, K1_5, K1_6, K1_7, K1_17, K1_18, O1_0]), ?_, by (repeat (first | assumption | exact Fr.refl _ _ | refine Fr.new ?_ ?_ _ _ _ | refine Fr.put ?_ ?_ _ | omega | (simp only [RH]; omega)))⟩
        (try simp only [List.map_cons, List.map_nil, RH, Nat.reduceAdd, Nat.reduceEqDiff, reduceIte, ev_tmp, ev_const, lit_iv, lit_w8, lit_w32, lit_w64, envOf0, envOf1, envOf2, envOf3, envOf4, envOf5, T3, T5, T22, T30, T38, T48, cv32_8 Try.underlying22 Try.underlying5, K0_2, K0_5, K0_17, O0_0, K1_2, K1_5, K1_6, K1_7, K1_17, K1_18, O1_0])
        rw [← Nat.add_assoc, ← filled_set _ _ h32]
        have eo : outB sF (4 * i + j) = ((sF.l.getD i 0#32) >>> (24 - 8 * j)).setWidth 8 := by
          unfold outB
          rw [show (4 * i + j) / 4 = i by omega, show (4 * i + j) % 4 = j by omega]
        rw [eo]
      · intro e5 h5 hK hO hN ⟨j22, o5, F5⟩
        simp only [List.map_cons, List.map_nil, List.cons.injEq, and_true, RH, Nat.reduceAdd, Nat.reduceEqDiff, reduceIte, envOf0, envOf1, envOf2, envOf3, envOf4, envOf5, j18, K0_2, K0_5, K0_17, O0_0] at hK
        obtain ⟨K1_2, K1_5, K1_6, K1_7, K1_17, K1_18⟩ := hK
        simp only [List.map_cons, List.map_nil, List.cons.injEq, and_true, RH, Nat.reduceAdd, Nat.reduceEqDiff, reduceIte, envOf0, envOf1, envOf2, envOf3, envOf4, envOf5, j18, K0_2, K0_5, K0_17, O0_0] at hO
        have O1_0 := hO
        try simp only [RH] at hN
        repeat (first
          | refine R_seq ?_ | refine R_region ?_ | refine R_nil ?_ | refine Q_seq ?_ | refine Q_norm ?_ | refine Q_seqr ?_ | refine Q_seqx ?_ | refine Q_bl ?_ | refine Q_blr ?_ | refine Q_blx ?_ | refine Q_blo rfl ?_ | refine R_block ?_ | refine R_skip ?_ | refine R_exit ?_ | refine R_ret ?_ | refine I_true ?_ | refine I_false ?_ | refine N_exit ?_ | refine N_ret ?_
          | ((first | apply R_op | apply R_op0)
             · (first | (simp (maxDischargeDepth := 9) only [RA, Nat.reduceEqDiff, Nat.reduceLT, Nat.reduceLeDiff, Nat.reduceAdd, Nat.reduceSub, Nat.reduceMul, Nat.reduceDiv, Nat.reduceMod, Nat.reducePow, Nat.reduceBEq, Nat.reduceGT, reduceIte, j22, T3, T5, T22, T30, T38, T48, cv32_8 Try.underlying22 Try.underlying5, K0_2, K0_5, K0_17, O0_0, K1_2, K1_5, K1_6, K1_7, K1_17, K1_18, O1_0] <;> rfl) | ((repeat (first | (simp (maxDischargeDepth := 9) only [RA, Nat.reduceEqDiff, Nat.reduceLT, Nat.reduceLeDiff, Nat.reduceAdd, Nat.reduceSub, Nat.reduceMul, Nat.reduceDiv, Nat.reduceMod, Nat.reducePow, Nat.reduceBEq, Nat.reduceGT, reduceIte, j22, T3, T5, T22, T30, T38, T48, cv32_8 Try.underlying22 Try.underlying5, K0_2, K0_5, K0_17, O0_0, K1_2, K1_5, K1_6, K1_7, K1_17, K1_18, O1_0]; done) | simp (maxDischargeDepth := 9) only [RA, Nat.reduceEqDiff, Nat.reduceLT, Nat.reduceLeDiff, Nat.reduceAdd, Nat.reduceSub, Nat.reduceMul, Nat.reduceDiv, Nat.reduceMod, Nat.reducePow, Nat.reduceBEq, Nat.reduceGT, reduceIte, j22, T3, T5, T22, T30, T38, T48, cv32_8 Try.underlying22 Try.underlying5, K0_2, K0_5, K0_17, O0_0, K1_2, K1_5, K1_6, K1_7, K1_17, K1_18, O1_0] | simp (disch := first | assumption | omega) only [RV, j22, T3, T5, T22, T30, T38, T48, cv32_8 Try.underlying22 Try.underlying5, K0_2, K0_5, K0_17, O0_0, K1_2, K1_5, K1_6, K1_7, K1_17, K1_18, O1_0])) <;> rfl)))
          | (apply R_cond
             · (simp only [RE, Nat.reduceEqDiff, Nat.reduceLT, Nat.reduceLeDiff, Nat.reduceBEq, reduceIte, j22, T3, T5, T22, T30, T38, T48, cv32_8 Try.underlying22 Try.underlying5, K0_2, K0_5, K0_17, O0_0, K1_2, K1_5, K1_6, K1_7, K1_17, K1_18, O1_0] <;> rfl))
          | (apply R_grd
             · (simp only [yieldedA, RY, Nat.reduceEqDiff, reduceIte, j22, T3, T5, T22, T30, T38, T48, cv32_8 Try.underlying22 Try.underlying5, K0_2, K0_5, K0_17, O0_0, K1_2, K1_5, K1_6, K1_7, K1_17, K1_18, O1_0] <;> rfl)))
        refine ⟨rfl, by first | rfl | simp only [List.map_cons, List.map_nil, RH, Nat.reduceAdd, Nat.reduceEqDiff, reduceIte, T3, T5, T22, T30, T38, T48, cv32_8 Try.underlying22 Try.underlying5, K0_2, K0_5, K0_17, O0_0, K1_2, K1_5, K1_6, K1_7, K1_17, K1_18, O1_0], by first | rfl | simp only [List.map_cons, List.map_nil, RH, Nat.reduceAdd, Nat.reduceEqDiff, reduceIte, T3, T5, T22, T30, T38, T48, cv32_8 Try.underlying22 Try.underlying5, K0_2, K0_5, K0_17, O0_0, K1_2, K1_5, K1_6, K1_7, K1_17, K1_18, O1_0], by first | (simp only [RH, T3, T5, T22, T30, T38, T48, cv32_8 Try.underlying22 Try.underlying5, K0_2, K0_5, K0_17, O0_0, K1_2, K1_5, K1_6, K1_7, K1_17, K1_18, O1_0]; done) | ((try simp only [RH, T3, T5, T22, T30, T38, T48, cv32_8 Try.underlying22 Try.underlying5, K0_2, K0_5, K0_17, O0_0, K1_2, K1_5, K1_6, K1_7, K1_17, K1_18, O1_0]); omega), ?_⟩
        refine ⟨by (try simp only [List.map_cons, List.map_nil, RH, Nat.reduceAdd, Nat.reduceEqDiff, reduceIte, ev_tmp, ev_const, lit_iv, lit_w8, lit_w32, lit_w64, envOf0, envOf1, envOf2, envOf3, envOf4, envOf5, T3, T5, T22, T30, T38, T48, cv32_8 Try.underlying22 Try.underlying5, K0_2, K0_5, K0_17, O0_0, K1_2, K1_5, K1_6, K1_7, K1_17, K1_18, O1_0]), ?_, F5⟩
        rw [o5, show 4 * i + 4 = 4 * (i + 1) by omega]
    · intro e4 h4 hK hO hN ⟨j18, o4, F4⟩
      simp only [List.map_cons, List.map_nil, List.cons.injEq, and_true, RH, Nat.reduceAdd, Nat.reduceEqDiff, reduceIte, envOf0, envOf1, envOf2, envOf3, envOf4, envOf5, c0, c1, i1] at hK
      obtain ⟨K0_2, K0_5, K0_17⟩ := hK
      simp only [List.map_cons, List.map_nil, List.cons.injEq, and_true, RH, Nat.reduceAdd, Nat.reduceEqDiff, reduceIte, envOf0, envOf1, envOf2, envOf3, envOf4, envOf5, c0, c1, i1] at hO
      have O0_0 := hO
      try simp only [RH] at hN
      rw [show 4 * 8 = 32 from rfl, ← hsum] at o4
      have hsl : (sumS b).length = 32 := by rw [hsum]; exact filled_length _ _ (by omega)
      have hc8 := fun (kd : Kind) (es : Nat) => cut8 (k := kd) (es := es) hsl
      have hp8 := fun (H : Heap) (p : Nat) => puts8 (h := H) (b := p) (es := 1) hsl (List.length_replicate (n := 32) (a := 0#8))
      repeat (first
        | refine R_seq ?_ | refine R_region ?_ | refine R_nil ?_ | refine Q_seq ?_ | refine Q_norm ?_ | refine Q_seqr ?_ | refine Q_seqx ?_ | refine Q_bl ?_ | refine Q_blr ?_ | refine Q_blx ?_ | refine Q_blo rfl ?_ | refine R_block ?_ | refine R_skip ?_ | refine R_exit ?_ | refine R_ret ?_ | refine I_true ?_ | refine I_false ?_ | refine N_exit ?_ | refine N_ret ?_
        | ((first | apply R_op | apply R_op0)
           · (first | (simp (maxDischargeDepth := 9) only [RA, Nat.reduceEqDiff, Nat.reduceLT, Nat.reduceLeDiff, Nat.reduceAdd, Nat.reduceSub, Nat.reduceMul, Nat.reduceDiv, Nat.reduceMod, Nat.reducePow, Nat.reduceBEq, Nat.reduceGT, reduceIte, j18, o4, hc8, hp8, T3, T5, T22, T30, T38, T48, cv32_8 Try.underlying22 Try.underlying5, K0_2, K0_5, K0_17, O0_0] <;> rfl) | ((repeat (first | (simp (maxDischargeDepth := 9) only [RA, Nat.reduceEqDiff, Nat.reduceLT, Nat.reduceLeDiff, Nat.reduceAdd, Nat.reduceSub, Nat.reduceMul, Nat.reduceDiv, Nat.reduceMod, Nat.reducePow, Nat.reduceBEq, Nat.reduceGT, reduceIte, j18, o4, hc8, hp8, T3, T5, T22, T30, T38, T48, cv32_8 Try.underlying22 Try.underlying5, K0_2, K0_5, K0_17, O0_0]; done) | simp (maxDischargeDepth := 9) only [RA, Nat.reduceEqDiff, Nat.reduceLT, Nat.reduceLeDiff, Nat.reduceAdd, Nat.reduceSub, Nat.reduceMul, Nat.reduceDiv, Nat.reduceMod, Nat.reducePow, Nat.reduceBEq, Nat.reduceGT, reduceIte, j18, o4, hc8, hp8, T3, T5, T22, T30, T38, T48, cv32_8 Try.underlying22 Try.underlying5, K0_2, K0_5, K0_17, O0_0] | simp (disch := first | assumption | omega) only [RV, j18, o4, hc8, hp8, T3, T5, T22, T30, T38, T48, cv32_8 Try.underlying22 Try.underlying5, K0_2, K0_5, K0_17, O0_0])) <;> rfl)))
        | (apply R_cond
           · (simp only [RE, Nat.reduceEqDiff, Nat.reduceLT, Nat.reduceLeDiff, Nat.reduceBEq, reduceIte, j18, o4, hc8, hp8, T3, T5, T22, T30, T38, T48, cv32_8 Try.underlying22 Try.underlying5, K0_2, K0_5, K0_17, O0_0] <;> rfl))
        | (apply R_grd
           · (simp only [yieldedA, RY, Nat.reduceEqDiff, reduceIte, j18, o4, hc8, hp8, T3, T5, T22, T30, T38, T48, cv32_8 Try.underlying22 Try.underlying5, K0_2, K0_5, K0_17, O0_0] <;> rfl)))
      first | refine ⟨.inr rfl, ?_⟩ | refine ⟨.inl rfl, ?_⟩
      simp only [evResultList, evResult, K0_2, ld30, RH, upd_apply, Nat.reduceEqDiff, reduceIte, hc8, Option.map_some]
      refine ⟨_, rfl, rfl, Fr.put ?_ (Nat.le_refl _) _⟩
      exact (FH.trans (F1.le (by omega))).trans ((F2.le (by omega)).trans (i3.trans (F4.le (by omega))))
end Go.Proofs.Ytfehhihllenjiaa
