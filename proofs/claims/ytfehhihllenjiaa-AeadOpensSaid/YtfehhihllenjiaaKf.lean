/- One-time tags: words, sums, products. -/
import Derived.Test.YtfehhihllenjiaaTy
import Derived.Test.YtfehhihllenjiaaC5
import Derived.Test.YtfehhihllenjiaaS9
import Derived.Test.YtfehhihllenjiaaKb
set_option linter.all false
namespace Go.Proofs.Ytfehhihllenjiaa
open Go.Proofs
theorem inl118 : inlOf Try.prog 118 = false := by kernel_rfl
theorem ext118 : extOf Try.prog 118 = some add64V := by kernel_rfl
def addC (x y c : BitVec 64) : BitVec 64 := BitVec.ofNat 64 ((x.toNat + y.toNat + c.toNat) / 18446744073709551616)
theorem addC_eq (x y c : BitVec 64) : (x + y + c).toNat + 18446744073709551616 * (addC x y c).toNat = x.toNat + y.toNat + c.toNat := by
  rw [add64_sum, addC, BitVec.toNat_ofNat]
  have := x.isLt
  have := y.isLt
  have := c.isLt
  omega
theorem addC_le (x y c : BitVec 64) (hc : c.toNat ≤ 1) : (addC x y c).toNat ≤ 1 := by
  rw [addC, BitVec.toNat_ofNat]
  have := x.isLt
  have := y.isLt
  omega
theorem add64_ev (d : Nat) (h : Heap) (x y c : BitVec 64) (hc : c.toNat ≤ 1) : fcall Try.prog d (.func (.func 118) #[] #[]) [w64 x, w64 y, w64 c] h = some (.ok (.tuple #[w64 (x + y + c), w64 (addC x y c)]), h) := by
  refine fcall_ext inl118 ext118 ?_
  unfold add64V w64
  simp only
  rw [if_pos ⟨by omega, by omega, by omega, by omega⟩]
  have e1 : ((x.toNat : Int) + (y.toNat : Int) + (c.toNat : Int)) % 18446744073709551616 = ((x + y + c).toNat : Int) := by rw [add64_sum]; omega
  have e2 : ((x.toNat : Int) + (y.toNat : Int) + (c.toNat : Int)) / 18446744073709551616 = ((addC x y c).toNat : Int) := by
    rw [addC, BitVec.toNat_ofNat]
    have := x.isLt
    have := y.isLt
    omega
  rw [e1, e2]
theorem add64_0 (d : Nat) (h : Heap) (x y : BitVec 64) : fcall Try.prog d (.func (.func 118) #[] #[]) [w64 x, w64 y, w64 0#64] h = some (.ok (.tuple #[w64 (x + y + 0#64), w64 (addC x y 0#64)]), h) := add64_ev d h x y _ (by decide)
theorem add64_1 (d : Nat) (h : Heap) (x y a b : BitVec 64) : fcall Try.prog d (.func (.func 118) #[] #[]) [w64 x, w64 y, w64 (addC a b 0#64)] h = some (.ok (.tuple #[w64 (x + y + addC a b 0#64), w64 (addC x y (addC a b 0#64))]), h) := add64_ev d h x y _ (addC_le _ _ _ (by decide))
theorem bu103 (a b c : BitVec 64) : evBuild Try.prog 103 [(0, w64 a), (1, w64 b), (2, w64 c)] = some (.agg ⟨[w64 a, w64 b, w64 c]⟩) := by kernel_rfl
attribute [local irreducible] evOps iter evD evF evC evLoad evStore evAlloc evIndexAddr evIndex evLenB evBox evBin evUn evConvert evExtract evSlice evAppend evCopy evNil evBuild evMakeSlice evBuildSlice evBuiltin Program.underlying
theorem inl117 : inlOf Try.prog 117 = true := by kernel_rfl
theorem iso117 : isoOf Try.prog 117 = true := by kernel_rfl
set_option maxRecDepth 20000 in
set_option maxHeartbeats 8000000 in
theorem mul64_ev (n : Nat) (x y : BitVec 64) (h : Heap) : fcall Try.prog (n + 2) (.func (.func 117) #[] #[]) [w64 x, w64 y] h = some (.ok (.tuple #[w64 (mulHi x y), w64 (x * y)]), h) := by
  rw [fcall_iso inl117 iso117]
  have : ∃ v h1, evF (cfg0 Try.prog) (n + 1 + 1) 117 [w64 x, w64 y] ⟨fun _ => none, 0⟩ = some (.ok v, h1) ∧ v = (.tuple #[w64 (mulHi x y), w64 (x * y)]) := by
    rw [evF_eq Try.func117 rfl]
    apply evEnd_of_W
    simp only [Try.f117]
    repeat (first
      | refine R_seq ?_ | refine R_region ?_ | refine R_nil ?_ | refine Q_seq ?_ | refine Q_norm ?_ | refine Q_seqr ?_ | refine Q_seqx ?_ | refine Q_bl ?_ | refine Q_blr ?_ | refine Q_blx ?_ | refine Q_blo rfl ?_ | refine R_block ?_ | refine R_skip ?_ | refine R_exit ?_ | refine R_ret ?_ | refine I_true ?_ | refine I_false ?_ | refine N_exit ?_ | refine N_ret ?_
      | (refine R_draw (by kernel_rfl) ?_)
      | ((first | apply R_op | apply R_op0)
         · ((repeat (first | simp (maxDischargeDepth := 9) only [RA, Nat.reduceEqDiff, Nat.reduceLT, Nat.reduceLeDiff, Nat.reduceAdd, Nat.reduceSub, Nat.reduceMul, Nat.reduceDiv, Nat.reduceMod, Nat.reducePow, Nat.reduceBEq, Nat.reduceGT, reduceIte, T93, T94] | simp (disch := first | assumption | omega) only [RV])) <;> rfl))
      | (apply R_cond
         · (simp only [RE, Nat.reduceEqDiff, Nat.reduceLT, Nat.reduceLeDiff, Nat.reduceBEq, reduceIte] <;> rfl))
      | (apply R_grd
         · (simp only [yieldedA, RY, Nat.reduceEqDiff, reduceIte] <;> rfl)))
    (first | refine ⟨.inr rfl, _, rfl, ?_⟩ | refine ⟨.inl rfl, _, rfl, ?_⟩) <;> simp only [packR, upd_apply, Nat.reduceEqDiff, if_true, if_false, reduceIte]
    unfold mulHi
    rfl
  obtain ⟨v, h1, e1, rfl⟩ := this
  exact isoPhi_eq (by first | rfl | simp only [List.all_cons, List.all_nil, closed_agg8, closed_agg32, closed_w8, closed_w32, closed_w64, closed_iv, Bool.and_true]) (by first | rfl | simp only [closed_agg8, closed_agg32]) e1
theorem inl98 : inlOf Try.prog 98 = true := by kernel_rfl
theorem iso98 : isoOf Try.prog 98 = false := by kernel_rfl
set_option maxRecDepth 20000 in
set_option maxHeartbeats 8000000 in
theorem low98 (q : Nat) (h : Heap) (v : Value) (b : List (BitVec 8)) (hb : By h v b) (hl : b.length ≤ 8) : fcall Try.prog (q + 2) (.func (.func 98) #[] #[]) [v] h = some (.ok (w64 (lowW b)), h) := by
  have : ∃ v' h', fcall Try.prog (q + 2) (.func (.func 98) #[] #[]) [v] h = some (.ok v', h') ∧ v' = w64 (lowW b) ∧ h' = h := by
    rw [fcall_inl inl98 iso98, evF_eq Try.func98 rfl]
    apply evEnd_of_W
    simp only [Try.f98]
    repeat (first
      | refine R_seq ?_ | refine R_region ?_ | refine R_nil ?_ | refine Q_seq ?_ | refine Q_norm ?_ | refine Q_seqr ?_ | refine Q_seqx ?_ | refine Q_bl ?_ | refine Q_blr ?_ | refine Q_blx ?_ | refine Q_blo rfl ?_ | refine R_block ?_ | refine R_skip ?_ | refine R_exit ?_ | refine R_ret ?_ | refine I_true ?_ | refine I_false ?_ | refine N_exit ?_ | refine N_ret ?_
      | (refine R_draw (by kernel_rfl) ?_)
      | ((first | apply R_op | apply R_op0)
         · ((repeat (first | simp (maxDischargeDepth := 9) only [RA, Nat.reduceEqDiff, Nat.reduceLT, Nat.reduceLeDiff, Nat.reduceAdd, Nat.reduceSub, Nat.reduceMul, Nat.reduceDiv, Nat.reduceMod, Nat.reducePow, Nat.reduceBEq, Nat.reduceGT, reduceIte, S38len hb, S38ia hb, S38ld hb, S38h hb, S38l hb, S38lh hb, S38n hb, S38hm hb, S38lhm hb, S38str hb, RF, T3, T5, T38, T93, cv8_64 Try.underlying5 Try.underlying93] | simp (disch := first | assumption | omega) only [RV, S38len hb, S38ia hb, S38ld hb, S38h hb, S38l hb, S38lh hb, S38n hb, S38hm hb, S38lhm hb, S38str hb, RF])) <;> rfl))
      | (apply R_cond
         · (simp only [RE, Nat.reduceEqDiff, Nat.reduceLT, Nat.reduceLeDiff, Nat.reduceBEq, reduceIte] <;> rfl))
      | (apply R_grd
         · (simp only [yieldedA, RY, Nat.reduceEqDiff, reduceIte] <;> rfl)))
    refine W_loopK [5, 6] [] (fun j e1 h1 => e1 7 = iv j ∧ e1 2 = w64 (BitVec.ofNat 64 (leN (b.take j))) ∧ h1 = h) b.length (by omega) ?_ ?_ ?_
    · exact ⟨by (try simp only [List.map_cons, List.map_nil, RH, Nat.reduceAdd, Nat.reduceEqDiff, reduceIte, ev_tmp, ev_const, lit_iv, lit_w8, lit_w32, lit_w64, envOf0, envOf1, envOf2, envOf3, envOf4, envOf5, T3, T5, T38, T93, cv8_64 Try.underlying5 Try.underlying93]), by (try simp only [List.map_cons, List.map_nil, RH, Nat.reduceAdd, Nat.reduceEqDiff, reduceIte, ev_tmp, ev_const, lit_iv, lit_w8, lit_w32, lit_w64, envOf0, envOf1, envOf2, envOf3, envOf4, envOf5, T3, T5, T38, T93, cv8_64 Try.underlying5 Try.underlying93]); rfl, rfl⟩
    · intro j hj e1 h1 hK hO hN ⟨j7, j2, hh⟩
      subst hh
      simp only [List.map_cons, List.map_nil, List.cons.injEq, and_true, RH, Nat.reduceAdd, Nat.reduceEqDiff, reduceIte, envOf0, envOf1, envOf2, envOf3, envOf4, envOf5] at hK
      obtain ⟨K0_5, K0_6⟩ := hK
      try simp only [RH] at hN
      have hst := low_step b j hj hl
      repeat (first
        | refine R_seq ?_ | refine R_region ?_ | refine R_nil ?_ | refine Q_seq ?_ | refine Q_norm ?_ | refine Q_seqr ?_ | refine Q_seqx ?_ | refine Q_bl ?_ | refine Q_blr ?_ | refine Q_blx ?_ | refine Q_blo rfl ?_ | refine R_block ?_ | refine R_skip ?_ | refine R_exit ?_ | refine R_ret ?_ | refine I_true ?_ | refine I_false ?_ | refine N_exit ?_ | refine N_ret ?_
        | (refine R_draw (by kernel_rfl) ?_)
        | ((first | apply R_op | apply R_op0)
           · ((repeat (first | simp (maxDischargeDepth := 9) only [RA, Nat.reduceEqDiff, Nat.reduceLT, Nat.reduceLeDiff, Nat.reduceAdd, Nat.reduceSub, Nat.reduceMul, Nat.reduceDiv, Nat.reduceMod, Nat.reducePow, Nat.reduceBEq, Nat.reduceGT, reduceIte, S38len hb, S38ia hb, S38ld hb, S38h hb, S38l hb, S38lh hb, S38n hb, S38hm hb, S38lhm hb, S38str hb, RF, j7, j2, hj, hst, fr_refl, T3, T5, T38, T93, cv8_64 Try.underlying5 Try.underlying93, K0_5, K0_6] | simp (disch := first | assumption | omega) only [RV, S38len hb, S38ia hb, S38ld hb, S38h hb, S38l hb, S38lh hb, S38n hb, S38hm hb, S38lhm hb, S38str hb, RF, j7, j2, hj, hst, fr_refl, K0_5, K0_6])) <;> rfl))
        | (apply R_cond
           · (simp only [RE, Nat.reduceEqDiff, Nat.reduceLT, Nat.reduceLeDiff, Nat.reduceBEq, reduceIte] <;> rfl))
        | (apply R_grd
           · (simp only [yieldedA, RY, Nat.reduceEqDiff, reduceIte] <;> rfl)))
      refine ⟨rfl, by first | rfl | simp only [List.map_cons, List.map_nil, RH, Nat.reduceAdd, Nat.reduceEqDiff, reduceIte, T3, T5, T38, T93, cv8_64 Try.underlying5 Try.underlying93, K0_5, K0_6], by first | rfl | simp only [List.map_cons, List.map_nil, RH, Nat.reduceAdd, Nat.reduceEqDiff, reduceIte, T3, T5, T38, T93, cv8_64 Try.underlying5 Try.underlying93, K0_5, K0_6], by first | (simp only [RH, T3, T5, T38, T93, cv8_64 Try.underlying5 Try.underlying93, K0_5, K0_6]; done) | ((try simp only [RH, T3, T5, T38, T93, cv8_64 Try.underlying5 Try.underlying93, K0_5, K0_6]); omega), ?_⟩
      exact ⟨by (try simp only [List.map_cons, List.map_nil, RH, Nat.reduceAdd, Nat.reduceEqDiff, reduceIte, ev_tmp, ev_const, lit_iv, lit_w8, lit_w32, lit_w64, envOf0, envOf1, envOf2, envOf3, envOf4, envOf5, T3, T5, T38, T93, cv8_64 Try.underlying5 Try.underlying93, K0_5, K0_6]), by (try simp only [List.map_cons, List.map_nil, RH, Nat.reduceAdd, Nat.reduceEqDiff, reduceIte, ev_tmp, ev_const, lit_iv, lit_w8, lit_w32, lit_w64, envOf0, envOf1, envOf2, envOf3, envOf4, envOf5, T3, T5, T38, T93, cv8_64 Try.underlying5 Try.underlying93, K0_5, K0_6]), rfl⟩
    · intro e1 h1 hK hO hN ⟨j7, j2, hh⟩
      subst hh
      simp only [List.map_cons, List.map_nil, List.cons.injEq, and_true, RH, Nat.reduceAdd, Nat.reduceEqDiff, reduceIte, envOf0, envOf1, envOf2, envOf3, envOf4, envOf5] at hK
      obtain ⟨K0_5, K0_6⟩ := hK
      try simp only [RH] at hN
      rw [List.take_length] at j2
      repeat (first
        | refine R_seq ?_ | refine R_region ?_ | refine R_nil ?_ | refine Q_seq ?_ | refine Q_norm ?_ | refine Q_seqr ?_ | refine Q_seqx ?_ | refine Q_bl ?_ | refine Q_blr ?_ | refine Q_blx ?_ | refine Q_blo rfl ?_ | refine R_block ?_ | refine R_skip ?_ | refine R_exit ?_ | refine R_ret ?_ | refine I_true ?_ | refine I_false ?_ | refine N_exit ?_ | refine N_ret ?_
        | (refine R_draw (by kernel_rfl) ?_)
        | ((first | apply R_op | apply R_op0)
           · ((repeat (first | simp (maxDischargeDepth := 9) only [RA, Nat.reduceEqDiff, Nat.reduceLT, Nat.reduceLeDiff, Nat.reduceAdd, Nat.reduceSub, Nat.reduceMul, Nat.reduceDiv, Nat.reduceMod, Nat.reducePow, Nat.reduceBEq, Nat.reduceGT, reduceIte, j7, j2, T3, T5, T38, T93, cv8_64 Try.underlying5 Try.underlying93, K0_5, K0_6] | simp (disch := first | assumption | omega) only [RV, j7, j2, K0_5, K0_6])) <;> rfl))
        | (apply R_cond
           · (simp only [RE, Nat.reduceEqDiff, Nat.reduceLT, Nat.reduceLeDiff, Nat.reduceBEq, reduceIte] <;> rfl))
        | (apply R_grd
           · (simp only [yieldedA, RY, Nat.reduceEqDiff, reduceIte] <;> rfl)))
      refine ⟨.inr rfl, _, rfl, ?_, rfl⟩
      (try simp only [List.map_cons, List.map_nil, RH, Nat.reduceAdd, Nat.reduceEqDiff, reduceIte, ev_tmp, ev_const, lit_iv, lit_w8, lit_w32, lit_w64, envOf0, envOf1, envOf2, envOf3, envOf4, envOf5, packR, T3, T5, T38, T93, cv8_64 Try.underlying5 Try.underlying93, K0_5, K0_6])
      rfl
  obtain ⟨_, _, e, rfl, rfl⟩ := this
  exact e
theorem inl103 : inlOf Try.prog 103 = true := by kernel_rfl
theorem iso103 : isoOf Try.prog 103 = false := by kernel_rfl
set_option maxRecDepth 20000 in
set_option maxHeartbeats 8000000 in
theorem add103 (q : Nat) (h : Heap) (p : Nat) (w0 w1 w2 a b c : BitVec 64) (rest : List Value) (ho : h.obj p = some (.row .rw 1 (w64 w0 :: w64 w1 :: w64 w2 :: rest))) (hl : N3 w0 w1 w2 + N3 a b c < 6277101735386680763835789423207666416102355444464034512896) :
    ∃ v' h', fcall Try.prog (q + 2) (.func (.func 103) #[] #[]) [.pointer (some ⟨p, 0, none⟩), w64 a, w64 b, w64 c] h = some (.ok v', h') ∧ (∃ s0 s1 s2, h'.obj p = some (.row .rw 1 (w64 s0 :: w64 s1 :: w64 s2 :: rest)) ∧ N3 s0 s1 s2 = N3 w0 w1 w2 + N3 a b c) ∧ h'.nx = h.nx ∧ ∀ r, r ≠ p → h'.obj r = h.obj r := by
  rw [fcall_inl inl103 iso103, evF_eq Try.func103 rfl]
  apply evEnd_of_W
  simp only [Try.f103]
  repeat (first
    | refine R_seq ?_ | refine R_region ?_ | refine R_nil ?_ | refine Q_seq ?_ | refine Q_norm ?_ | refine Q_seqr ?_ | refine Q_seqx ?_ | refine Q_bl ?_ | refine Q_blr ?_ | refine Q_blx ?_ | refine Q_blo rfl ?_ | refine R_block ?_ | refine R_skip ?_ | refine R_exit ?_ | refine R_ret ?_ | refine I_true ?_ | refine I_false ?_ | refine N_exit ?_ | refine N_ret ?_
    | (refine R_draw (by kernel_rfl) ?_)
    | ((first | apply R_op | apply R_op0)
       · ((repeat (first | simp (maxDischargeDepth := 9) only [RA, Nat.reduceEqDiff, Nat.reduceLT, Nat.reduceLeDiff, Nat.reduceAdd, Nat.reduceSub, Nat.reduceMul, Nat.reduceDiv, Nat.reduceMod, Nat.reducePow, Nat.reduceBEq, Nat.reduceGT, reduceIte, ho, add64_0, add64_1, T1, T93, T103, T105] | simp (disch := first | assumption | omega) only [RV, ho, add64_0, add64_1])) <;> rfl))
    | (apply R_cond
       · (simp only [RE, Nat.reduceEqDiff, Nat.reduceLT, Nat.reduceLeDiff, Nat.reduceBEq, reduceIte] <;> rfl))
    | (apply R_grd
       · (simp only [yieldedA, RY, Nat.reduceEqDiff, reduceIte] <;> rfl)))
  refine ⟨.inl rfl, _, rfl, ⟨w0 + a + 0#64, w1 + b + addC w0 a 0#64, w2 + (c + addC w1 b (addC w0 a 0#64)), ?_, ?_⟩, ?_, ?_⟩
  · simp only [RH]; rfl
  · refine add3 (c0 := addC w0 a 0#64) (c1 := addC w1 b (addC w0 a 0#64)) ?_ ?_ hl
    · have := addC_eq w0 a 0#64
      simpa using this
    · exact addC_eq _ _ _
  · simp only [RH]
  · intro r hr
    have : (r = p) = False := eq_false hr
    simp only [RH, this, reduceIte]
theorem inl119 : inlOf Try.prog 119 = true := by kernel_rfl
theorem iso119 : isoOf Try.prog 119 = false := by kernel_rfl
set_option maxRecDepth 20000 in
set_option maxHeartbeats 8000000 in
theorem fold119 (q : Nat) (h : Heap) (p : Nat) (w0 w1 w2 a : BitVec 64) (rest : List Value) (ho : h.obj p = some (.row .rw 1 (w64 w0 :: w64 w1 :: w64 w2 :: rest))) (hl : N3 w0 w1 w2 < 1361129467683753853853498429727072845824) (ha : a.toNat ≤ 4294967296) :
    ∃ v' h', fcall Try.prog (q + 3) (.func (.func 119) #[] #[]) [.pointer (some ⟨p, 0, none⟩), w64 a] h = some (.ok v', h') ∧ (∃ s0 s1 s2, h'.obj p = some (.row .rw 1 (w64 s0 :: w64 s1 :: w64 s2 :: rest)) ∧ N3 s0 s1 s2 = N3 w0 w1 w2 + 5 * a.toNat) ∧ h'.nx = h.nx ∧ ∀ r, r ≠ p → h'.obj r = h.obj r := by
  rw [fcall_inl inl119 iso119, evF_eq Try.func119 rfl]
  apply evEnd_of_W
  simp only [Try.f119]
  repeat (first
    | refine R_seq ?_ | refine R_region ?_ | refine R_nil ?_ | refine Q_seq ?_ | refine Q_norm ?_ | refine Q_seqr ?_ | refine Q_seqx ?_ | refine Q_bl ?_ | refine Q_blr ?_ | refine Q_blx ?_ | refine Q_blo rfl ?_ | refine R_block ?_ | refine R_skip ?_ | refine R_exit ?_ | refine R_ret ?_ | refine I_true ?_ | refine I_false ?_ | refine N_exit ?_ | refine N_ret ?_
    | ((first | apply R_op | apply R_op0)
       · ((repeat (first | simp (maxDischargeDepth := 9) only [RA, Nat.reduceEqDiff, Nat.reduceLT, Nat.reduceLeDiff, Nat.reduceAdd, Nat.reduceSub, Nat.reduceMul, Nat.reduceDiv, Nat.reduceMod, Nat.reducePow, Nat.reduceBEq, Nat.reduceGT, reduceIte, mul64_ev, T1, T93, T133] | simp (disch := first | assumption | omega) only [RV, mul64_ev])) <;> rfl))
    | (apply R_cond
       · (simp only [RE, Nat.reduceEqDiff, Nat.reduceLT, Nat.reduceLeDiff, Nat.reduceBEq, reduceIte] <;> rfl))
    | (apply R_grd
       · (simp only [yieldedA, RY, Nat.reduceEqDiff, reduceIte] <;> rfl)))
  have hm := mul64 a 5#64
  have e5 : (5#64).toNat = 5 := rfl
  have hN : N3 (a * 5#64) (mulHi a 5#64) 0#64 = 5 * a.toNat := by
    unfold N3
    rw [e5] at hm
    have : (0#64).toNat = 0 := rfl
    omega
  refine R_fn ?_ (add103 q h p w0 w1 w2 (a * 5#64) (mulHi a 5#64) 0#64 rest ho (by rw [hN]; omega)) ?_
  · rfl
  intro v1 h1 ⟨⟨s0, s1, s2, o1, e1⟩, n1, x1⟩
  repeat (first
    | refine R_seq ?_ | refine R_region ?_ | refine R_nil ?_ | refine Q_seq ?_ | refine Q_norm ?_ | refine Q_seqr ?_ | refine Q_seqx ?_ | refine Q_bl ?_ | refine Q_blr ?_ | refine Q_blx ?_ | refine Q_blo rfl ?_ | refine R_block ?_ | refine R_skip ?_ | refine R_exit ?_ | refine R_ret ?_ | refine I_true ?_ | refine I_false ?_ | refine N_exit ?_ | refine N_ret ?_
    | (refine R_draw (by kernel_rfl) ?_)
    | ((first | apply R_op | apply R_op0)
       · ((repeat (first | simp (maxDischargeDepth := 9) only [RA, Nat.reduceEqDiff, Nat.reduceLT, Nat.reduceLeDiff, Nat.reduceAdd, Nat.reduceSub, Nat.reduceMul, Nat.reduceDiv, Nat.reduceMod, Nat.reducePow, Nat.reduceBEq, Nat.reduceGT, reduceIte, T1, T93, T133] | simp (disch := first | assumption | omega) only [RV])) <;> rfl))
    | (apply R_cond
       · (simp only [RE, Nat.reduceEqDiff, Nat.reduceLT, Nat.reduceLeDiff, Nat.reduceBEq, reduceIte] <;> rfl))
    | (apply R_grd
       · (simp only [yieldedA, RY, Nat.reduceEqDiff, reduceIte] <;> rfl)))
  exact ⟨.inl rfl, _, rfl, ⟨s0, s1, s2, o1, by rw [e1, hN]⟩, n1, x1⟩
end Go.Proofs.Ytfehhihllenjiaa
