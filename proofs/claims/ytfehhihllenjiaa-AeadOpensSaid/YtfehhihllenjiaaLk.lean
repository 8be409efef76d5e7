/- Sealed bytes: the document's framing. -/
import Derived.Test.YtfehhihllenjiaaLf
import Derived.Test.YtfehhihllenjiaaFe
set_option linter.all false
namespace Go.Proofs.Ytfehhihllenjiaa
open Go.Proofs
theorem padK16_step {n i : Nat} (hi : i < padK16 n) : ¬ (n + i) % 16 = 0 := by unfold padK16 at hi; omega
theorem padK16_end (n : Nat) : (n + padK16 n) % 16 = 0 := by unfold padK16; omega
theorem pad_snoc (b : List (BitVec 8)) (i : Nat) : (b ++ List.replicate i 0#8) ++ [0#8] = b ++ List.replicate (i + 1) 0#8 := by
  rw [List.replicate_succ', List.append_assoc]
def frB (x a b : List (BitVec 8)) (i : Nat) : List (BitVec 8) := x ++ ((leB a.length 8 ++ leB b.length 8).take i)
theorem frB_zero (x a b : List (BitVec 8)) : frB x a b 0 = x := by simp [frB]
theorem frB_full (x a b : List (BitVec 8)) : frB x a b 16 = x ++ leB a.length 8 ++ leB b.length 8 := by
  unfold frB
  rw [List.take_of_length_le (by rw [List.length_append, leB_length, leB_length]; exact Nat.le_refl _), List.append_assoc]
theorem frB_length (x a b : List (BitVec 8)) {i : Nat} (hi : i ≤ 16) : (frB x a b i).length = x.length + i := by
  unfold frB
  rw [List.length_append, List.length_take, List.length_append, leB_length, leB_length]; omega
theorem frB_step (x a b : List (BitVec 8)) {i : Nat} (hi : i < 16) (ha : a.length ≤ 4294967296) (hb : b.length ≤ 4294967296) :
    frB x a b i ++ [((BitVec.ofNat 64 (if 8 ≤ i then b.length else a.length)) >>> (8 * (i % 8))).setWidth 8] = frB x a b (i + 1) := by
  unfold frB
  rw [List.append_assoc, List.take_succ]
  congr 2
  have key : ∀ V : Nat, V ≤ 4294967296 → ∀ j, j < 8 → (leB V 8)[j]? = some (((BitVec.ofNat 64 V) >>> (8 * j)).setWidth 8) := fun V hV j hj => by
    rw [leB_get _ _ _ hj]
    congr 1
    apply BitVec.eq_of_toNat_eq
    rw [BitVec.toNat_setWidth, shr_toNat, BitVec.toNat_ofNat, BitVec.toNat_ofNat, Nat.pow_mul, Nat.mod_eq_of_lt (show V < 2 ^ 64 by omega)]
  by_cases h8 : 8 ≤ i
  · rw [if_pos h8, List.getElem?_append_right (by rw [leB_length]; exact h8), leB_length, key _ hb _ (by omega), show i % 8 = i - 8 by omega]; rfl
  · rw [if_neg h8, List.getElem?_append_left (by rw [leB_length]; omega), key _ ha _ (by omega), show i % 8 = i by omega]; rfl
attribute [local irreducible] evOps iter evD evF evC evLoad evStore evAlloc evIndexAddr evIndex evLenB evBox evBin evUn evConvert evExtract evSlice evAppend evCopy evNil evBuild evMakeSlice evBuildSlice evBuiltin Program.underlying
attribute [local irreducible] leB padZ framedS block xorS polyT oneT tagS sealS ask5L lk1 ln2 lText frB cpy
theorem inl85 : inlOf Try.prog 85 = true := by kernel_rfl
theorem iso85 : isoOf Try.prog 85 = true := by kernel_rfl
set_option maxRecDepth 20000 in
set_option maxHeartbeats 8000000 in
theorem oneT85 (n : Nat) (k n' : List (BitVec 8)) (hk : k.length = 32) (hn : n'.length = 12) (h : Heap) : fcall Try.prog (n + 10) (.func (.func 85) #[] #[]) [.agg ⟨b8 k⟩, .agg ⟨b8 n'⟩] h = some (.ok (.agg ⟨b8 (oneT k n')⟩), h) := by
  rw [fcall_iso inl85 iso85]
  have : ∃ v h1, evF (cfg0 Try.prog) (n + 9 + 1) 85 [.agg ⟨b8 k⟩, .agg ⟨b8 n'⟩] ⟨fun _ => none, 0⟩ = some (.ok v, h1) ∧ v = (.agg ⟨b8 (oneT k n')⟩) := by
    rw [evF_eq Try.func85 rfl]
    apply evEnd_of_W
    simp only [Try.f85]
    have hbl := block_length k n' 0#32
    repeat (first
      | refine R_seq ?_ | refine R_region ?_ | refine R_nil ?_ | refine Q_seq ?_ | refine Q_norm ?_ | refine Q_seqr ?_ | refine Q_seqx ?_ | refine Q_bl ?_ | refine Q_blr ?_ | refine Q_blx ?_ | refine Q_blo rfl ?_ | refine R_block ?_ | refine R_skip ?_ | refine R_exit ?_ | refine R_ret ?_ | refine I_true ?_ | refine I_false ?_ | refine N_exit ?_ | refine N_ret ?_
      | ((first | apply R_op | apply R_op0)
         · ((repeat (first | simp (maxDischargeDepth := 9) only [RA, Nat.reduceEqDiff, Nat.reduceLT, Nat.reduceLeDiff, Nat.reduceAdd, Nat.reduceSub, Nat.reduceMul, Nat.reduceDiv, Nat.reduceMod, Nat.reducePow, Nat.reduceBEq, Nat.reduceGT, reduceIte, hk, hn, cut8 hk, cut8 hn, block46 (n + 4) k n' hk hn, puts8 hbl (List.length_replicate (n := 64) (a := 0#8)), T3, T5, T22, T30, T32, T33] | simp (disch := first | assumption | omega) only [RV, hk, hn, cut8 hk, cut8 hn, block46 (n + 4) k n' hk hn, puts8 hbl (List.length_replicate (n := 64) (a := 0#8))])) <;> rfl))
      | (apply R_cond
         · (simp only [RE, Nat.reduceEqDiff, Nat.reduceLT, Nat.reduceLeDiff, Nat.reduceBEq, reduceIte] <;> rfl))
      | (apply R_grd
         · (simp only [yieldedA, RY, Nat.reduceEqDiff, reduceIte] <;> rfl)))
    refine W_loopK [4, 5, 6] [3] (fun i e1 h1 => e1 7 = iv i ∧ h1.obj 4 = some (.row .rw 1 (b8 (cpy (block k n' 0#32) 32 i))) ∧ h1.obj 2 = some (.row .rw 1 (b8 (List.replicate 32 0#8)))) 32 (by decide) ?_ ?_ ?_
    · refine ⟨by (try simp only [List.map_cons, List.map_nil, RH, Nat.reduceAdd, Nat.reduceEqDiff, reduceIte, ev_tmp, ev_const, lit_iv, lit_w8, lit_w32, lit_w64, envOf0, envOf1, envOf2, envOf3, envOf4, envOf5, T3, T5, T22, T30, T32, T33]), ?_, ?_⟩
      · simp [RH, cpy_zero, rep8]
      · simp [RH, rep8]
    · intro i hi e1 h1 hK hO hN ⟨j7, o4, o2⟩
      simp only [List.map_cons, List.map_nil, List.cons.injEq, and_true, RH, Nat.reduceAdd, Nat.reduceEqDiff, reduceIte, envOf0, envOf1, envOf2, envOf3, envOf4, envOf5] at hK
      obtain ⟨K0_4, K0_5, K0_6⟩ := hK
      simp only [List.map_cons, List.map_nil, List.cons.injEq, and_true, RH, Nat.reduceAdd, Nat.reduceEqDiff, reduceIte, envOf0, envOf1, envOf2, envOf3, envOf4, envOf5] at hO
      have O0_0 := hO
      try simp only [RH] at hN
      have hcl := cpy_length (xs := block k n' 0#32) (n := 32) (i := i) (by omega) (by omega)
      have hcs := cpy_set (xs := block k n' 0#32) (n := 32) (i := i) hi (by omega)
      have hi64 : i < 64 := by omega
      repeat (first
        | refine R_seq ?_ | refine R_region ?_ | refine R_nil ?_ | refine Q_seq ?_ | refine Q_norm ?_ | refine Q_seqr ?_ | refine Q_seqx ?_ | refine Q_bl ?_ | refine Q_blr ?_ | refine Q_blx ?_ | refine Q_blo rfl ?_ | refine R_block ?_ | refine R_skip ?_ | refine R_exit ?_ | refine R_ret ?_ | refine I_true ?_ | refine I_false ?_ | refine N_exit ?_ | refine N_ret ?_
        | ((first | apply R_op | apply R_op0)
           · ((repeat (first | simp (maxDischargeDepth := 9) only [RA, Nat.reduceEqDiff, Nat.reduceLT, Nat.reduceLeDiff, Nat.reduceAdd, Nat.reduceSub, Nat.reduceMul, Nat.reduceDiv, Nat.reduceMod, Nat.reducePow, Nat.reduceBEq, Nat.reduceGT, reduceIte, j7, hi, hi64, o4, hcl, hbl, hcs, T3, T5, T22, T30, T32, T33, K0_4, K0_5, K0_6, O0_0] | simp (disch := first | assumption | omega) only [RV, j7, hi, hi64, o4, hcl, hbl, hcs, K0_4, K0_5, K0_6, O0_0])) <;> rfl))
        | (apply R_cond
           · (simp only [RE, Nat.reduceEqDiff, Nat.reduceLT, Nat.reduceLeDiff, Nat.reduceBEq, reduceIte] <;> rfl))
        | (apply R_grd
           · (simp only [yieldedA, RY, Nat.reduceEqDiff, reduceIte] <;> rfl)))
      refine ⟨rfl, by first | rfl | simp only [List.map_cons, List.map_nil, RH, Nat.reduceAdd, Nat.reduceEqDiff, reduceIte, T3, T5, T22, T30, T32, T33, K0_4, K0_5, K0_6, O0_0], by first | rfl | simp only [List.map_cons, List.map_nil, RH, Nat.reduceAdd, Nat.reduceEqDiff, reduceIte, T3, T5, T22, T30, T32, T33, K0_4, K0_5, K0_6, O0_0], by first | (simp only [RH, T3, T5, T22, T30, T32, T33, K0_4, K0_5, K0_6, O0_0]; done) | ((try simp only [RH, T3, T5, T22, T30, T32, T33, K0_4, K0_5, K0_6, O0_0]); omega), ?_⟩
      exact ⟨by (try simp only [List.map_cons, List.map_nil, RH, Nat.reduceAdd, Nat.reduceEqDiff, reduceIte, ev_tmp, ev_const, lit_iv, lit_w8, lit_w32, lit_w64, envOf0, envOf1, envOf2, envOf3, envOf4, envOf5, T3, T5, T22, T30, T32, T33, K0_4, K0_5, K0_6, O0_0]), by simp [RH], by simp [RH, o2]⟩
    · intro e1 h1 hK hO hN ⟨j7, o4, o2⟩
      simp only [List.map_cons, List.map_nil, List.cons.injEq, and_true, RH, Nat.reduceAdd, Nat.reduceEqDiff, reduceIte, envOf0, envOf1, envOf2, envOf3, envOf4, envOf5] at hK
      obtain ⟨K0_4, K0_5, K0_6⟩ := hK
      simp only [List.map_cons, List.map_nil, List.cons.injEq, and_true, RH, Nat.reduceAdd, Nat.reduceEqDiff, reduceIte, envOf0, envOf1, envOf2, envOf3, envOf4, envOf5] at hO
      have O0_0 := hO
      try simp only [RH] at hN
      rw [cpy_full] at o4
      have ho : (block k n' 0#32).take 32 = oneT k n' := by unfold oneT; rfl
      rw [ho] at o4
      have hol := oneT_length k n'
      repeat (first
        | refine R_seq ?_ | refine R_region ?_ | refine R_nil ?_ | refine Q_seq ?_ | refine Q_norm ?_ | refine Q_seqr ?_ | refine Q_seqx ?_ | refine Q_bl ?_ | refine Q_blr ?_ | refine Q_blx ?_ | refine Q_blo rfl ?_ | refine R_block ?_ | refine R_skip ?_ | refine R_exit ?_ | refine R_ret ?_ | refine I_true ?_ | refine I_false ?_ | refine N_exit ?_ | refine N_ret ?_
        | ((first | apply R_op | apply R_op0)
           · ((repeat (first | simp (maxDischargeDepth := 9) only [RA, Nat.reduceEqDiff, Nat.reduceLT, Nat.reduceLeDiff, Nat.reduceAdd, Nat.reduceSub, Nat.reduceMul, Nat.reduceDiv, Nat.reduceMod, Nat.reducePow, Nat.reduceBEq, Nat.reduceGT, reduceIte, j7, o4, o2, hol, T3, T5, T22, T30, T32, T33, K0_4, K0_5, K0_6, O0_0] | simp (disch := first | assumption | omega) only [RV, j7, o4, o2, hol, K0_4, K0_5, K0_6, O0_0])) <;> rfl))
        | (apply R_cond
           · (simp only [RE, Nat.reduceEqDiff, Nat.reduceLT, Nat.reduceLeDiff, Nat.reduceBEq, reduceIte] <;> rfl))
        | (apply R_grd
           · (simp only [yieldedA, RY, Nat.reduceEqDiff, reduceIte] <;> rfl)))
      (first | refine ⟨.inr rfl, ?_⟩ | refine ⟨.inl rfl, ?_⟩)
      simp only [evResultList, evResult, RA, Nat.reduceEqDiff, Nat.reduceLT, Nat.reduceLeDiff, Nat.reduceAdd, Nat.reduceSub, Nat.reduceMul, Nat.reduceDiv, Nat.reduceMod, Nat.reducePow, Nat.reduceBEq, Nat.reduceGT, reduceIte, cut8 hol, T3, T5, T22, T30, T32, T33, K0_4, K0_5, K0_6, O0_0]
      refine ⟨_, rfl, ?_⟩
      rfl
  obtain ⟨v, h1, e1, rfl⟩ := this
  exact isoPhi_eq (by first | rfl | simp only [List.all_cons, List.all_nil, closed_agg8, closed_agg32, closed_w8, closed_w32, closed_w64, closed_iv, Bool.and_true]) (by first | rfl | simp only [closed_agg8, closed_agg32]) e1
theorem inl86 : inlOf Try.prog 86 = true := by kernel_rfl
theorem iso86 : isoOf Try.prog 86 = false := by kernel_rfl
set_option maxRecDepth 20000 in
set_option maxHeartbeats 8000000 in
theorem framed86 (q : Nat) (h : Heap) (v w : Value) (a b : List (BitVec 8)) (ha : By h v a) (hb : By h w b) (hal : a.length ≤ 1048576) (hbl : b.length ≤ 1048576) :
    ∃ v' h', fcall Try.prog (q + 1) (.func (.func 86) #[] #[]) [v, w] h = some (.ok v', h') ∧ OwB h.nx h' v' (framedS a b) ∧ Fr h.nx h h' := by
  rw [fcall_inl inl86 iso86, evF_eq Try.func86 rfl]
  apply evEnd_of_W
  simp only [Try.f86]
  have hpa := padZ_le a
  have hpb := padZ_le b
  repeat (first
    | refine R_seq ?_ | refine R_region ?_ | refine R_nil ?_ | refine Q_seq ?_ | refine Q_norm ?_ | refine Q_seqr ?_ | refine Q_seqx ?_ | refine Q_bl ?_ | refine Q_blr ?_ | refine Q_blx ?_ | refine Q_blo rfl ?_ | refine R_block ?_ | refine R_skip ?_ | refine R_exit ?_ | refine R_ret ?_ | refine I_true ?_ | refine I_false ?_ | refine N_exit ?_ | refine N_ret ?_
    | ((first | apply R_op | apply R_op0)
       · ((repeat (first | simp (maxDischargeDepth := 9) only [RA, Nat.reduceEqDiff, Nat.reduceLT, Nat.reduceLeDiff, Nat.reduceAdd, Nat.reduceSub, Nat.reduceMul, Nat.reduceDiv, Nat.reduceMod, Nat.reducePow, Nat.reduceBEq, Nat.reduceGT, reduceIte, T1, T3, T5, T38, T93, cvi_64 Try.underlying3 Try.underlying93, cv64_8 Try.underlying93 Try.underlying5] | simp (disch := first | assumption | omega) only [RV])) <;> rfl))
    | (apply R_cond
       · (simp only [RE, Nat.reduceEqDiff, Nat.reduceLT, Nat.reduceLeDiff, Nat.reduceBEq, reduceIte] <;> rfl))
    | (apply R_grd
       · (simp only [yieldedA, RY, Nat.reduceEqDiff, reduceIte] <;> rfl)))
  refine R_app E38 Try.underlying38 (v := .slice none 0 0) (w := v) (lo := h.nx) (xs := []) (ys := a) ?_ ?_ .nil ha (Nat.le_refl _) (by simp; omega) ?_
  · first | rfl | (first | rw [ev_tmp] | rw [ev_const] | skip) <;> simp only [upd_apply, Nat.reduceEqDiff, if_true, if_false, reduceIte, lit_iv, lit_w8]
  · first | rfl | (first | rw [ev_tmp] | rw [ev_const] | skip) <;> simp only [upd_apply, Nat.reduceEqDiff, if_true, if_false, reduceIte, lit_iv, lit_w8]
  intro v2 h2 own2 wt2
  rw [List.nil_append] at own2
  have n2 := wt2.nx
  have F2 : Fr h.nx h h2 := wt2.fr (Nat.le_refl _) (fun r hr => by simp [rowsOfV] at hr)
  repeat (first
    | refine R_seq ?_ | refine R_region ?_ | refine R_nil ?_ | refine Q_seq ?_ | refine Q_norm ?_ | refine Q_seqr ?_ | refine Q_seqx ?_ | refine Q_bl ?_ | refine Q_blr ?_ | refine Q_blx ?_ | refine Q_blo rfl ?_ | refine R_block ?_ | refine R_skip ?_ | refine R_exit ?_ | refine R_ret ?_ | refine I_true ?_ | refine I_false ?_ | refine N_exit ?_ | refine N_ret ?_
    | ((first | apply R_op | apply R_op0)
       · ((repeat (first | simp (maxDischargeDepth := 9) only [RA, Nat.reduceEqDiff, Nat.reduceLT, Nat.reduceLeDiff, Nat.reduceAdd, Nat.reduceSub, Nat.reduceMul, Nat.reduceDiv, Nat.reduceMod, Nat.reducePow, Nat.reduceBEq, Nat.reduceGT, reduceIte, T1, T3, T5, T38, T93, cvi_64 Try.underlying3 Try.underlying93, cv64_8 Try.underlying93 Try.underlying5] | simp (disch := first | assumption | omega) only [RV])) <;> rfl))
    | (apply R_cond
       · (simp only [RE, Nat.reduceEqDiff, Nat.reduceLT, Nat.reduceLeDiff, Nat.reduceBEq, reduceIte] <;> rfl))
    | (apply R_grd
       · (simp only [yieldedA, RY, Nat.reduceEqDiff, reduceIte] <;> rfl)))
  have hk1 := padK16_le a.length
  refine W_loopK [0, 1] [] (fun i e1 h1 => OwB h.nx h1 (e1 5) (a ++ List.replicate i 0#8) ∧ Fr h.nx h h1) (padK16 a.length) (by omega) ?_ ?_ ?_
  · exact ⟨by (try simp only [List.map_cons, List.map_nil, RH, Nat.reduceAdd, Nat.reduceEqDiff, reduceIte, ev_tmp, ev_const, lit_iv, lit_w8, lit_w32, lit_w64, envOf0, envOf1, envOf2, envOf3, envOf4, envOf5, T1, T3, T5, T38, T93, cvi_64 Try.underlying3 Try.underlying93, cv64_8 Try.underlying93 Try.underlying5]); simpa using own2, F2⟩
  · intro i hi e1 h1 hK hO hN ⟨own1, F1⟩
    simp only [List.map_cons, List.map_nil, List.cons.injEq, and_true, RH, Nat.reduceAdd, Nat.reduceEqDiff, reduceIte, envOf0, envOf1, envOf2, envOf3, envOf4, envOf5] at hK
    obtain ⟨K0_0, K0_1⟩ := hK
    try simp only [RH] at hN
    have hne := eq_false (padK16_step hi)
    have hl1 : (a ++ List.replicate i 0#8).length = a.length + i := by simp
    have l1 := S38len own1.sl
    rw [hl1] at l1
    have n1 := F1.1
    repeat (first
      | refine R_seq ?_ | refine R_region ?_ | refine R_nil ?_ | refine Q_seq ?_ | refine Q_norm ?_ | refine Q_seqr ?_ | refine Q_seqx ?_ | refine Q_bl ?_ | refine Q_blr ?_ | refine Q_blx ?_ | refine Q_blo rfl ?_ | refine R_block ?_ | refine R_skip ?_ | refine R_exit ?_ | refine R_ret ?_ | refine I_true ?_ | refine I_false ?_ | refine N_exit ?_ | refine N_ret ?_
      | ((first | apply R_op | apply R_op0)
         · ((repeat (first | simp (maxDischargeDepth := 9) only [RA, Nat.reduceEqDiff, Nat.reduceLT, Nat.reduceLeDiff, Nat.reduceAdd, Nat.reduceSub, Nat.reduceMul, Nat.reduceDiv, Nat.reduceMod, Nat.reducePow, Nat.reduceBEq, Nat.reduceGT, reduceIte, l1, hne, T1, T3, T5, T38, T93, cvi_64 Try.underlying3 Try.underlying93, cv64_8 Try.underlying93 Try.underlying5, K0_0, K0_1] | simp (disch := first | assumption | omega) only [RV, l1, hne, K0_0, K0_1])) <;> rfl))
      | (apply R_cond
         · (simp only [RE, Nat.reduceEqDiff, Nat.reduceLT, Nat.reduceLeDiff, Nat.reduceBEq, reduceIte] <;> rfl))
      | (apply R_grd
         · (simp only [yieldedA, RY, Nat.reduceEqDiff, reduceIte] <;> rfl)))
    refine R_app E38 Try.underlying38 (v := e1 5) (w := .slice (some ⟨h1.nx, 0, none⟩) 1 1) (lo := h.nx) (xs := a ++ List.replicate i 0#8) (ys := [0#8]) ?_ ?_ own1.new one_by (by simp only [RH]; omega) (by rw [hl1]; simp; omega) ?_
    · first | rfl | (first | rw [ev_tmp] | rw [ev_const] | skip) <;> simp only [upd_apply, Nat.reduceEqDiff, if_true, if_false, reduceIte, lit_iv, lit_w8, K0_0, K0_1]
    · first | rfl | (first | rw [ev_tmp] | rw [ev_const] | skip) <;> simp only [upd_apply, Nat.reduceEqDiff, if_true, if_false, reduceIte, lit_iv, lit_w8, K0_0, K0_1]
    intro v3 h3 own3 wt3
    rw [pad_snoc] at own3
    have n3 := wt3.nx
    simp only [RH] at n3
    repeat (first
      | refine R_seq ?_ | refine R_region ?_ | refine R_nil ?_ | refine Q_seq ?_ | refine Q_norm ?_ | refine Q_seqr ?_ | refine Q_seqx ?_ | refine Q_bl ?_ | refine Q_blr ?_ | refine Q_blx ?_ | refine Q_blo rfl ?_ | refine R_block ?_ | refine R_skip ?_ | refine R_exit ?_ | refine R_ret ?_ | refine I_true ?_ | refine I_false ?_ | refine N_exit ?_ | refine N_ret ?_
      | ((first | apply R_op | apply R_op0)
         · ((repeat (first | simp (maxDischargeDepth := 9) only [RA, Nat.reduceEqDiff, Nat.reduceLT, Nat.reduceLeDiff, Nat.reduceAdd, Nat.reduceSub, Nat.reduceMul, Nat.reduceDiv, Nat.reduceMod, Nat.reducePow, Nat.reduceBEq, Nat.reduceGT, reduceIte, T1, T3, T5, T38, T93, cvi_64 Try.underlying3 Try.underlying93, cv64_8 Try.underlying93 Try.underlying5, K0_0, K0_1] | simp (disch := first | assumption | omega) only [RV, K0_0, K0_1])) <;> rfl))
      | (apply R_cond
         · (simp only [RE, Nat.reduceEqDiff, Nat.reduceLT, Nat.reduceLeDiff, Nat.reduceBEq, reduceIte] <;> rfl))
      | (apply R_grd
         · (simp only [yieldedA, RY, Nat.reduceEqDiff, reduceIte] <;> rfl)))
    refine ⟨rfl, by first | rfl | simp only [List.map_cons, List.map_nil, RH, Nat.reduceAdd, Nat.reduceEqDiff, reduceIte, T1, T3, T5, T38, T93, cvi_64 Try.underlying3 Try.underlying93, cv64_8 Try.underlying93 Try.underlying5, K0_0, K0_1], by first | rfl | simp only [List.map_cons, List.map_nil, RH, Nat.reduceAdd, Nat.reduceEqDiff, reduceIte, T1, T3, T5, T38, T93, cvi_64 Try.underlying3 Try.underlying93, cv64_8 Try.underlying93 Try.underlying5, K0_0, K0_1], by first | (simp only [RH, T1, T3, T5, T38, T93, cvi_64 Try.underlying3 Try.underlying93, cv64_8 Try.underlying93 Try.underlying5, K0_0, K0_1]; done) | ((try simp only [RH, T1, T3, T5, T38, T93, cvi_64 Try.underlying3 Try.underlying93, cv64_8 Try.underlying93 Try.underlying5, K0_0, K0_1]); omega), ?_⟩
    refine ⟨by (try simp only [List.map_cons, List.map_nil, RH, Nat.reduceAdd, Nat.reduceEqDiff, reduceIte, ev_tmp, ev_const, lit_iv, lit_w8, lit_w32, lit_w64, envOf0, envOf1, envOf2, envOf3, envOf4, envOf5, T1, T3, T5, T38, T93, cvi_64 Try.underlying3 Try.underlying93, cv64_8 Try.underlying93 Try.underlying5, K0_0, K0_1]); exact own3, F1.trans ((Fr.new (.refl h.nx h1) F1.1 .rw 1 [w8 0#8]).trans (wt3.owFr (by simp only [RH]; omega) own1.new))⟩
  · intro e1 h1 hK hO hN ⟨own1, F1⟩
    simp only [List.map_cons, List.map_nil, List.cons.injEq, and_true, RH, Nat.reduceAdd, Nat.reduceEqDiff, reduceIte, envOf0, envOf1, envOf2, envOf3, envOf4, envOf5] at hK
    obtain ⟨K0_0, K0_1⟩ := hK
    try simp only [RH] at hN
    have he := eq_true (padK16_end a.length)
    have hl1 : (a ++ List.replicate (padK16 a.length) 0#8).length = a.length + padK16 a.length := by simp
    have l1 := S38len own1.sl
    rw [hl1] at l1
    have n1 := F1.1
    have own1 : OwB h.nx h1 (e1 5) (padZ a) := by unfold padZ; exact own1
    repeat (first
      | refine R_seq ?_ | refine R_region ?_ | refine R_nil ?_ | refine Q_seq ?_ | refine Q_norm ?_ | refine Q_seqr ?_ | refine Q_seqx ?_ | refine Q_bl ?_ | refine Q_blr ?_ | refine Q_blx ?_ | refine Q_blo rfl ?_ | refine R_block ?_ | refine R_skip ?_ | refine R_exit ?_ | refine R_ret ?_ | refine I_true ?_ | refine I_false ?_ | refine N_exit ?_ | refine N_ret ?_
      | ((first | apply R_op | apply R_op0)
         · ((repeat (first | simp (maxDischargeDepth := 9) only [RA, Nat.reduceEqDiff, Nat.reduceLT, Nat.reduceLeDiff, Nat.reduceAdd, Nat.reduceSub, Nat.reduceMul, Nat.reduceDiv, Nat.reduceMod, Nat.reducePow, Nat.reduceBEq, Nat.reduceGT, reduceIte, l1, he, T1, T3, T5, T38, T93, cvi_64 Try.underlying3 Try.underlying93, cv64_8 Try.underlying93 Try.underlying5, K0_0, K0_1] | simp (disch := first | assumption | omega) only [RV, l1, he, K0_0, K0_1])) <;> rfl))
      | (apply R_cond
         · (simp only [RE, Nat.reduceEqDiff, Nat.reduceLT, Nat.reduceLeDiff, Nat.reduceBEq, reduceIte] <;> rfl))
      | (apply R_grd
         · (simp only [yieldedA, RY, Nat.reduceEqDiff, reduceIte] <;> rfl)))
    refine R_app E38 Try.underlying38 (v := e1 5) (w := w) (lo := h.nx) (xs := padZ a) (ys := b) ?_ ?_ own1 (hb.fr0 F1) n1 (by omega) ?_
    · first | rfl | (first | rw [ev_tmp] | rw [ev_const] | skip) <;> simp only [upd_apply, Nat.reduceEqDiff, if_true, if_false, reduceIte, lit_iv, lit_w8, K0_0, K0_1]
    · first | rfl | (first | rw [ev_tmp] | rw [ev_const] | skip) <;> simp only [upd_apply, Nat.reduceEqDiff, if_true, if_false, reduceIte, lit_iv, lit_w8, K0_0, K0_1]
    intro v3 h3 own3 wt3
    have n3 := wt3.nx
    have F3 := F1.trans (wt3.owFr n1 own1)
    have hk2 := padK16_le (padZ a ++ b).length
    have hab : (padZ a ++ b).length = (padZ a).length + b.length := by simp
    repeat (first
      | refine R_seq ?_ | refine R_region ?_ | refine R_nil ?_ | refine Q_seq ?_ | refine Q_norm ?_ | refine Q_seqr ?_ | refine Q_seqx ?_ | refine Q_bl ?_ | refine Q_blr ?_ | refine Q_blx ?_ | refine Q_blo rfl ?_ | refine R_block ?_ | refine R_skip ?_ | refine R_exit ?_ | refine R_ret ?_ | refine I_true ?_ | refine I_false ?_ | refine N_exit ?_ | refine N_ret ?_
      | ((first | apply R_op | apply R_op0)
         · ((repeat (first | simp (maxDischargeDepth := 9) only [RA, Nat.reduceEqDiff, Nat.reduceLT, Nat.reduceLeDiff, Nat.reduceAdd, Nat.reduceSub, Nat.reduceMul, Nat.reduceDiv, Nat.reduceMod, Nat.reducePow, Nat.reduceBEq, Nat.reduceGT, reduceIte, T1, T3, T5, T38, T93, cvi_64 Try.underlying3 Try.underlying93, cv64_8 Try.underlying93 Try.underlying5, K0_0, K0_1] | simp (disch := first | assumption | omega) only [RV, K0_0, K0_1])) <;> rfl))
      | (apply R_cond
         · (simp only [RE, Nat.reduceEqDiff, Nat.reduceLT, Nat.reduceLeDiff, Nat.reduceBEq, reduceIte] <;> rfl))
      | (apply R_grd
         · (simp only [yieldedA, RY, Nat.reduceEqDiff, reduceIte] <;> rfl)))
    refine W_loopK [0, 1] [] (fun i e4 h4 => OwB h.nx h4 (e4 5) ((padZ a ++ b) ++ List.replicate i 0#8) ∧ Fr h.nx h h4) (padK16 (padZ a ++ b).length) (by omega) ?_ ?_ ?_
    · exact ⟨by (try simp only [List.map_cons, List.map_nil, RH, Nat.reduceAdd, Nat.reduceEqDiff, reduceIte, ev_tmp, ev_const, lit_iv, lit_w8, lit_w32, lit_w64, envOf0, envOf1, envOf2, envOf3, envOf4, envOf5, T1, T3, T5, T38, T93, cvi_64 Try.underlying3 Try.underlying93, cv64_8 Try.underlying93 Try.underlying5, K0_0, K0_1]); simpa using own3, F3⟩
    · intro i hi e4 h4 hK hO hN ⟨own4, F4⟩
      simp only [List.map_cons, List.map_nil, List.cons.injEq, and_true, RH, Nat.reduceAdd, Nat.reduceEqDiff, reduceIte, envOf0, envOf1, envOf2, envOf3, envOf4, envOf5, K0_0, K0_1] at hK
      obtain ⟨K1_0, K1_1⟩ := hK
      try simp only [RH] at hN
      have hne := eq_false (padK16_step hi)
      have hl4 : ((padZ a ++ b) ++ List.replicate i 0#8).length = (padZ a ++ b).length + i := by rw [List.length_append, List.length_replicate]
      have l4 := S38len own4.sl
      rw [hl4] at l4
      have n4 := F4.1
      repeat (first
        | refine R_seq ?_ | refine R_region ?_ | refine R_nil ?_ | refine Q_seq ?_ | refine Q_norm ?_ | refine Q_seqr ?_ | refine Q_seqx ?_ | refine Q_bl ?_ | refine Q_blr ?_ | refine Q_blx ?_ | refine Q_blo rfl ?_ | refine R_block ?_ | refine R_skip ?_ | refine R_exit ?_ | refine R_ret ?_ | refine I_true ?_ | refine I_false ?_ | refine N_exit ?_ | refine N_ret ?_
        | ((first | apply R_op | apply R_op0)
           · ((repeat (first | simp (maxDischargeDepth := 9) only [RA, Nat.reduceEqDiff, Nat.reduceLT, Nat.reduceLeDiff, Nat.reduceAdd, Nat.reduceSub, Nat.reduceMul, Nat.reduceDiv, Nat.reduceMod, Nat.reducePow, Nat.reduceBEq, Nat.reduceGT, reduceIte, l4, hne, T1, T3, T5, T38, T93, cvi_64 Try.underlying3 Try.underlying93, cv64_8 Try.underlying93 Try.underlying5, K0_0, K0_1, K1_0, K1_1] | simp (disch := first | assumption | omega) only [RV, l4, hne, K0_0, K0_1, K1_0, K1_1])) <;> rfl))
        | (apply R_cond
           · (simp only [RE, Nat.reduceEqDiff, Nat.reduceLT, Nat.reduceLeDiff, Nat.reduceBEq, reduceIte] <;> rfl))
        | (apply R_grd
           · (simp only [yieldedA, RY, Nat.reduceEqDiff, reduceIte] <;> rfl)))
      refine R_app E38 Try.underlying38 (v := e4 5) (w := .slice (some ⟨h4.nx, 0, none⟩) 1 1) (lo := h.nx) (xs := (padZ a ++ b) ++ List.replicate i 0#8) (ys := [0#8]) ?_ ?_ own4.new one_by (by simp only [RH]; omega) (by rw [hl4]; simp; omega) ?_
      · first | rfl | (first | rw [ev_tmp] | rw [ev_const] | skip) <;> simp only [upd_apply, Nat.reduceEqDiff, if_true, if_false, reduceIte, lit_iv, lit_w8, K0_0, K0_1, K1_0, K1_1]
      · first | rfl | (first | rw [ev_tmp] | rw [ev_const] | skip) <;> simp only [upd_apply, Nat.reduceEqDiff, if_true, if_false, reduceIte, lit_iv, lit_w8, K0_0, K0_1, K1_0, K1_1]
      intro v5 h5 own5 wt5
      rw [pad_snoc] at own5
      have n5 := wt5.nx
      simp only [RH] at n5
      repeat (first
        | refine R_seq ?_ | refine R_region ?_ | refine R_nil ?_ | refine Q_seq ?_ | refine Q_norm ?_ | refine Q_seqr ?_ | refine Q_seqx ?_ | refine Q_bl ?_ | refine Q_blr ?_ | refine Q_blx ?_ | refine Q_blo rfl ?_ | refine R_block ?_ | refine R_skip ?_ | refine R_exit ?_ | refine R_ret ?_ | refine I_true ?_ | refine I_false ?_ | refine N_exit ?_ | refine N_ret ?_
        | ((first | apply R_op | apply R_op0)
           · ((repeat (first | simp (maxDischargeDepth := 9) only [RA, Nat.reduceEqDiff, Nat.reduceLT, Nat.reduceLeDiff, Nat.reduceAdd, Nat.reduceSub, Nat.reduceMul, Nat.reduceDiv, Nat.reduceMod, Nat.reducePow, Nat.reduceBEq, Nat.reduceGT, reduceIte, T1, T3, T5, T38, T93, cvi_64 Try.underlying3 Try.underlying93, cv64_8 Try.underlying93 Try.underlying5, K0_0, K0_1, K1_0, K1_1] | simp (disch := first | assumption | omega) only [RV, K0_0, K0_1, K1_0, K1_1])) <;> rfl))
        | (apply R_cond
           · (simp only [RE, Nat.reduceEqDiff, Nat.reduceLT, Nat.reduceLeDiff, Nat.reduceBEq, reduceIte] <;> rfl))
        | (apply R_grd
           · (simp only [yieldedA, RY, Nat.reduceEqDiff, reduceIte] <;> rfl)))
      refine ⟨rfl, by first | rfl | simp only [List.map_cons, List.map_nil, RH, Nat.reduceAdd, Nat.reduceEqDiff, reduceIte, T1, T3, T5, T38, T93, cvi_64 Try.underlying3 Try.underlying93, cv64_8 Try.underlying93 Try.underlying5, K0_0, K0_1, K1_0, K1_1], by first | rfl | simp only [List.map_cons, List.map_nil, RH, Nat.reduceAdd, Nat.reduceEqDiff, reduceIte, T1, T3, T5, T38, T93, cvi_64 Try.underlying3 Try.underlying93, cv64_8 Try.underlying93 Try.underlying5, K0_0, K0_1, K1_0, K1_1], by first | (simp only [RH, T1, T3, T5, T38, T93, cvi_64 Try.underlying3 Try.underlying93, cv64_8 Try.underlying93 Try.underlying5, K0_0, K0_1, K1_0, K1_1]; done) | ((try simp only [RH, T1, T3, T5, T38, T93, cvi_64 Try.underlying3 Try.underlying93, cv64_8 Try.underlying93 Try.underlying5, K0_0, K0_1, K1_0, K1_1]); omega), ?_⟩
      refine ⟨by (try simp only [List.map_cons, List.map_nil, RH, Nat.reduceAdd, Nat.reduceEqDiff, reduceIte, ev_tmp, ev_const, lit_iv, lit_w8, lit_w32, lit_w64, envOf0, envOf1, envOf2, envOf3, envOf4, envOf5, T1, T3, T5, T38, T93, cvi_64 Try.underlying3 Try.underlying93, cv64_8 Try.underlying93 Try.underlying5, K0_0, K0_1, K1_0, K1_1]); exact own5, F4.trans ((Fr.new (.refl h.nx h4) F4.1 .rw 1 [w8 0#8]).trans (wt5.owFr (by simp only [RH]; omega) own4.new))⟩
    · intro e4 h4 hK hO hN ⟨own4, F4⟩
      simp only [List.map_cons, List.map_nil, List.cons.injEq, and_true, RH, Nat.reduceAdd, Nat.reduceEqDiff, reduceIte, envOf0, envOf1, envOf2, envOf3, envOf4, envOf5, K0_0, K0_1] at hK
      obtain ⟨K1_0, K1_1⟩ := hK
      try simp only [RH] at hN
      have he := eq_true (padK16_end (padZ a ++ b).length)
      have hl4 : ((padZ a ++ b) ++ List.replicate (padK16 (padZ a ++ b).length) 0#8).length = (padZ a ++ b).length + padK16 (padZ a ++ b).length := by rw [List.length_append, List.length_replicate]
      have l4 := S38len own4.sl
      rw [hl4] at l4
      rw [padZ_join] at own4
      have n4 := F4.1
      repeat (first
        | refine R_seq ?_ | refine R_region ?_ | refine R_nil ?_ | refine Q_seq ?_ | refine Q_norm ?_ | refine Q_seqr ?_ | refine Q_seqx ?_ | refine Q_bl ?_ | refine Q_blr ?_ | refine Q_blx ?_ | refine Q_blo rfl ?_ | refine R_block ?_ | refine R_skip ?_ | refine R_exit ?_ | refine R_ret ?_ | refine I_true ?_ | refine I_false ?_ | refine N_exit ?_ | refine N_ret ?_
        | ((first | apply R_op | apply R_op0)
           · ((repeat (first | simp (maxDischargeDepth := 9) only [RA, Nat.reduceEqDiff, Nat.reduceLT, Nat.reduceLeDiff, Nat.reduceAdd, Nat.reduceSub, Nat.reduceMul, Nat.reduceDiv, Nat.reduceMod, Nat.reducePow, Nat.reduceBEq, Nat.reduceGT, reduceIte, l4, he, T1, T3, T5, T38, T93, cvi_64 Try.underlying3 Try.underlying93, cv64_8 Try.underlying93 Try.underlying5, K0_0, K0_1, K1_0, K1_1] | simp (disch := first | assumption | omega) only [RV, l4, he, K0_0, K0_1, K1_0, K1_1])) <;> rfl))
        | (apply R_cond
           · (simp only [RE, Nat.reduceEqDiff, Nat.reduceLT, Nat.reduceLeDiff, Nat.reduceBEq, reduceIte] <;> rfl))
        | (apply R_grd
           · (simp only [yieldedA, RY, Nat.reduceEqDiff, reduceIte] <;> rfl)))
      refine W_loopK [0, 1] [] (fun i e6 h6 => e6 6 = iv i ∧ OwB h.nx h6 (e6 5) (frB (padZ a ++ padZ b) a b i) ∧ Fr h.nx h h6) 16 (by omega) ?_ ?_ ?_
      · exact ⟨by (try simp only [List.map_cons, List.map_nil, RH, Nat.reduceAdd, Nat.reduceEqDiff, reduceIte, ev_tmp, ev_const, lit_iv, lit_w8, lit_w32, lit_w64, envOf0, envOf1, envOf2, envOf3, envOf4, envOf5, T1, T3, T5, T38, T93, cvi_64 Try.underlying3 Try.underlying93, cv64_8 Try.underlying93 Try.underlying5, K0_0, K0_1, K1_0, K1_1]), by (try simp only [List.map_cons, List.map_nil, RH, Nat.reduceAdd, Nat.reduceEqDiff, reduceIte, ev_tmp, ev_const, lit_iv, lit_w8, lit_w32, lit_w64, envOf0, envOf1, envOf2, envOf3, envOf4, envOf5, T1, T3, T5, T38, T93, cvi_64 Try.underlying3 Try.underlying93, cv64_8 Try.underlying93 Try.underlying5, K0_0, K0_1, K1_0, K1_1]); rw [frB_zero]; exact own4, F4⟩
      · intro i hi e6 h6 hK hO hN ⟨j6, own6, F6⟩
        simp only [List.map_cons, List.map_nil, List.cons.injEq, and_true, RH, Nat.reduceAdd, Nat.reduceEqDiff, reduceIte, envOf0, envOf1, envOf2, envOf3, envOf4, envOf5, K0_0, K0_1, K1_0, K1_1] at hK
        obtain ⟨K2_0, K2_1⟩ := hK
        try simp only [RH] at hN
        have a6 := ha.fr0 F6
        have b6 := hb.fr0 F6
        have n6 := F6.1
        have hst := frB_step (padZ a ++ padZ b) a b hi (by omega) (by omega)
        have hll := frB_length (padZ a ++ padZ b) a b (i := i) (by omega)
        have hpl : (padZ a ++ padZ b).length = (padZ a).length + (padZ b).length := by simp
        by_cases h8 : 8 ≤ i
        · rw [if_pos h8] at hst
          repeat (first
            | refine R_seq ?_ | refine R_region ?_ | refine R_nil ?_ | refine Q_seq ?_ | refine Q_norm ?_ | refine Q_seqr ?_ | refine Q_seqx ?_ | refine Q_bl ?_ | refine Q_blr ?_ | refine Q_blx ?_ | refine Q_blo rfl ?_ | refine R_block ?_ | refine R_skip ?_ | refine R_exit ?_ | refine R_ret ?_ | refine I_true ?_ | refine I_false ?_ | refine N_exit ?_ | refine N_ret ?_
            | ((first | apply R_op | apply R_op0)
               · ((repeat (first | simp (maxDischargeDepth := 9) only [RA, Nat.reduceEqDiff, Nat.reduceLT, Nat.reduceLeDiff, Nat.reduceAdd, Nat.reduceSub, Nat.reduceMul, Nat.reduceDiv, Nat.reduceMod, Nat.reducePow, Nat.reduceBEq, Nat.reduceGT, reduceIte, j6, hi, h8, S38len a6, S38len b6, T1, T3, T5, T38, T93, cvi_64 Try.underlying3 Try.underlying93, cv64_8 Try.underlying93 Try.underlying5, K0_0, K0_1, K1_0, K1_1, K2_0, K2_1] | simp (disch := first | assumption | omega) only [RV, j6, hi, h8, S38len a6, S38len b6, K0_0, K0_1, K1_0, K1_1, K2_0, K2_1])) <;> rfl))
            | (apply R_cond
               · (simp only [RE, Nat.reduceEqDiff, Nat.reduceLT, Nat.reduceLeDiff, Nat.reduceBEq, reduceIte] <;> rfl))
            | (apply R_grd
               · (simp only [yieldedA, RY, Nat.reduceEqDiff, reduceIte] <;> rfl)))
          refine R_app E38 Try.underlying38 (v := e6 5) (w := .slice (some ⟨h6.nx, 0, none⟩) 1 1) (lo := h.nx) (xs := frB (padZ a ++ padZ b) a b i) (ys := [((BitVec.ofNat 64 b.length) >>> (8 * (i % 8))).setWidth 8]) ?_ ?_ own6.new one_by (by simp only [RH]; omega) (by rw [hll]; simp; omega) ?_
          · first | rfl | (first | rw [ev_tmp] | rw [ev_const] | skip) <;> simp only [upd_apply, Nat.reduceEqDiff, if_true, if_false, reduceIte, lit_iv, lit_w8, K0_0, K0_1, K1_0, K1_1, K2_0, K2_1]
          · first | rfl | (first | rw [ev_tmp] | rw [ev_const] | skip) <;> simp only [upd_apply, Nat.reduceEqDiff, if_true, if_false, reduceIte, lit_iv, lit_w8, K0_0, K0_1, K1_0, K1_1, K2_0, K2_1]
          intro v7 h7 own7 wt7
          rw [hst] at own7
          have n7 := wt7.nx
          simp only [RH] at n7
          repeat (first
            | refine R_seq ?_ | refine R_region ?_ | refine R_nil ?_ | refine Q_seq ?_ | refine Q_norm ?_ | refine Q_seqr ?_ | refine Q_seqx ?_ | refine Q_bl ?_ | refine Q_blr ?_ | refine Q_blx ?_ | refine Q_blo rfl ?_ | refine R_block ?_ | refine R_skip ?_ | refine R_exit ?_ | refine R_ret ?_ | refine I_true ?_ | refine I_false ?_ | refine N_exit ?_ | refine N_ret ?_
            | ((first | apply R_op | apply R_op0)
               · ((repeat (first | simp (maxDischargeDepth := 9) only [RA, Nat.reduceEqDiff, Nat.reduceLT, Nat.reduceLeDiff, Nat.reduceAdd, Nat.reduceSub, Nat.reduceMul, Nat.reduceDiv, Nat.reduceMod, Nat.reducePow, Nat.reduceBEq, Nat.reduceGT, reduceIte, j6, T1, T3, T5, T38, T93, cvi_64 Try.underlying3 Try.underlying93, cv64_8 Try.underlying93 Try.underlying5, K0_0, K0_1, K1_0, K1_1, K2_0, K2_1] | simp (disch := first | assumption | omega) only [RV, j6, K0_0, K0_1, K1_0, K1_1, K2_0, K2_1])) <;> rfl))
            | (apply R_cond
               · (simp only [RE, Nat.reduceEqDiff, Nat.reduceLT, Nat.reduceLeDiff, Nat.reduceBEq, reduceIte] <;> rfl))
            | (apply R_grd
               · (simp only [yieldedA, RY, Nat.reduceEqDiff, reduceIte] <;> rfl)))
          refine ⟨rfl, by first | rfl | simp only [List.map_cons, List.map_nil, RH, Nat.reduceAdd, Nat.reduceEqDiff, reduceIte, T1, T3, T5, T38, T93, cvi_64 Try.underlying3 Try.underlying93, cv64_8 Try.underlying93 Try.underlying5, K0_0, K0_1, K1_0, K1_1, K2_0, K2_1], by first | rfl | simp only [List.map_cons, List.map_nil, RH, Nat.reduceAdd, Nat.reduceEqDiff, reduceIte, T1, T3, T5, T38, T93, cvi_64 Try.underlying3 Try.underlying93, cv64_8 Try.underlying93 Try.underlying5, K0_0, K0_1, K1_0, K1_1, K2_0, K2_1], by first | (simp only [RH, T1, T3, T5, T38, T93, cvi_64 Try.underlying3 Try.underlying93, cv64_8 Try.underlying93 Try.underlying5, K0_0, K0_1, K1_0, K1_1, K2_0, K2_1]; done) | ((try simp only [RH, T1, T3, T5, T38, T93, cvi_64 Try.underlying3 Try.underlying93, cv64_8 Try.underlying93 Try.underlying5, K0_0, K0_1, K1_0, K1_1, K2_0, K2_1]); omega), ?_⟩
          exact ⟨by (try simp only [List.map_cons, List.map_nil, RH, Nat.reduceAdd, Nat.reduceEqDiff, reduceIte, ev_tmp, ev_const, lit_iv, lit_w8, lit_w32, lit_w64, envOf0, envOf1, envOf2, envOf3, envOf4, envOf5, T1, T3, T5, T38, T93, cvi_64 Try.underlying3 Try.underlying93, cv64_8 Try.underlying93 Try.underlying5, K0_0, K0_1, K1_0, K1_1, K2_0, K2_1]), by (try simp only [List.map_cons, List.map_nil, RH, Nat.reduceAdd, Nat.reduceEqDiff, reduceIte, ev_tmp, ev_const, lit_iv, lit_w8, lit_w32, lit_w64, envOf0, envOf1, envOf2, envOf3, envOf4, envOf5, T1, T3, T5, T38, T93, cvi_64 Try.underlying3 Try.underlying93, cv64_8 Try.underlying93 Try.underlying5, K0_0, K0_1, K1_0, K1_1, K2_0, K2_1]); exact own7, F6.trans ((Fr.new (.refl h.nx h6) n6 .rw 1 _).trans (wt7.owFr (by simp only [RH]; omega) own6.new))⟩
        · rw [if_neg h8] at hst
          repeat (first
            | refine R_seq ?_ | refine R_region ?_ | refine R_nil ?_ | refine Q_seq ?_ | refine Q_norm ?_ | refine Q_seqr ?_ | refine Q_seqx ?_ | refine Q_bl ?_ | refine Q_blr ?_ | refine Q_blx ?_ | refine Q_blo rfl ?_ | refine R_block ?_ | refine R_skip ?_ | refine R_exit ?_ | refine R_ret ?_ | refine I_true ?_ | refine I_false ?_ | refine N_exit ?_ | refine N_ret ?_
            | ((first | apply R_op | apply R_op0)
               · ((repeat (first | simp (maxDischargeDepth := 9) only [RA, Nat.reduceEqDiff, Nat.reduceLT, Nat.reduceLeDiff, Nat.reduceAdd, Nat.reduceSub, Nat.reduceMul, Nat.reduceDiv, Nat.reduceMod, Nat.reducePow, Nat.reduceBEq, Nat.reduceGT, reduceIte, j6, hi, h8, S38len a6, S38len b6, T1, T3, T5, T38, T93, cvi_64 Try.underlying3 Try.underlying93, cv64_8 Try.underlying93 Try.underlying5, K0_0, K0_1, K1_0, K1_1, K2_0, K2_1] | simp (disch := first | assumption | omega) only [RV, j6, hi, h8, S38len a6, S38len b6, K0_0, K0_1, K1_0, K1_1, K2_0, K2_1])) <;> rfl))
            | (apply R_cond
               · (simp only [RE, Nat.reduceEqDiff, Nat.reduceLT, Nat.reduceLeDiff, Nat.reduceBEq, reduceIte] <;> rfl))
            | (apply R_grd
               · (simp only [yieldedA, RY, Nat.reduceEqDiff, reduceIte] <;> rfl)))
          refine R_app E38 Try.underlying38 (v := e6 5) (w := .slice (some ⟨h6.nx, 0, none⟩) 1 1) (lo := h.nx) (xs := frB (padZ a ++ padZ b) a b i) (ys := [((BitVec.ofNat 64 a.length) >>> (8 * (i % 8))).setWidth 8]) ?_ ?_ own6.new one_by (by simp only [RH]; omega) (by rw [hll]; simp; omega) ?_
          · first | rfl | (first | rw [ev_tmp] | rw [ev_const] | skip) <;> simp only [upd_apply, Nat.reduceEqDiff, if_true, if_false, reduceIte, lit_iv, lit_w8, K0_0, K0_1, K1_0, K1_1, K2_0, K2_1]
          · first | rfl | (first | rw [ev_tmp] | rw [ev_const] | skip) <;> simp only [upd_apply, Nat.reduceEqDiff, if_true, if_false, reduceIte, lit_iv, lit_w8, K0_0, K0_1, K1_0, K1_1, K2_0, K2_1]
          intro v7 h7 own7 wt7
          rw [hst] at own7
          have n7 := wt7.nx
          simp only [RH] at n7
          repeat (first
            | refine R_seq ?_ | refine R_region ?_ | refine R_nil ?_ | refine Q_seq ?_ | refine Q_norm ?_ | refine Q_seqr ?_ | refine Q_seqx ?_ | refine Q_bl ?_ | refine Q_blr ?_ | refine Q_blx ?_ | refine Q_blo rfl ?_ | refine R_block ?_ | refine R_skip ?_ | refine R_exit ?_ | refine R_ret ?_ | refine I_true ?_ | refine I_false ?_ | refine N_exit ?_ | refine N_ret ?_
            | ((first | apply R_op | apply R_op0)
               · ((repeat (first | simp (maxDischargeDepth := 9) only [RA, Nat.reduceEqDiff, Nat.reduceLT, Nat.reduceLeDiff, Nat.reduceAdd, Nat.reduceSub, Nat.reduceMul, Nat.reduceDiv, Nat.reduceMod, Nat.reducePow, Nat.reduceBEq, Nat.reduceGT, reduceIte, j6, T1, T3, T5, T38, T93, cvi_64 Try.underlying3 Try.underlying93, cv64_8 Try.underlying93 Try.underlying5, K0_0, K0_1, K1_0, K1_1, K2_0, K2_1] | simp (disch := first | assumption | omega) only [RV, j6, K0_0, K0_1, K1_0, K1_1, K2_0, K2_1])) <;> rfl))
            | (apply R_cond
               · (simp only [RE, Nat.reduceEqDiff, Nat.reduceLT, Nat.reduceLeDiff, Nat.reduceBEq, reduceIte] <;> rfl))
            | (apply R_grd
               · (simp only [yieldedA, RY, Nat.reduceEqDiff, reduceIte] <;> rfl)))
          refine ⟨rfl, by first | rfl | simp only [List.map_cons, List.map_nil, RH, Nat.reduceAdd, Nat.reduceEqDiff, reduceIte, T1, T3, T5, T38, T93, cvi_64 Try.underlying3 Try.underlying93, cv64_8 Try.underlying93 Try.underlying5, K0_0, K0_1, K1_0, K1_1, K2_0, K2_1], by first | rfl | simp only [List.map_cons, List.map_nil, RH, Nat.reduceAdd, Nat.reduceEqDiff, reduceIte, T1, T3, T5, T38, T93, cvi_64 Try.underlying3 Try.underlying93, cv64_8 Try.underlying93 Try.underlying5, K0_0, K0_1, K1_0, K1_1, K2_0, K2_1], by first | (simp only [RH, T1, T3, T5, T38, T93, cvi_64 Try.underlying3 Try.underlying93, cv64_8 Try.underlying93 Try.underlying5, K0_0, K0_1, K1_0, K1_1, K2_0, K2_1]; done) | ((try simp only [RH, T1, T3, T5, T38, T93, cvi_64 Try.underlying3 Try.underlying93, cv64_8 Try.underlying93 Try.underlying5, K0_0, K0_1, K1_0, K1_1, K2_0, K2_1]); omega), ?_⟩
          exact ⟨by (try simp only [List.map_cons, List.map_nil, RH, Nat.reduceAdd, Nat.reduceEqDiff, reduceIte, ev_tmp, ev_const, lit_iv, lit_w8, lit_w32, lit_w64, envOf0, envOf1, envOf2, envOf3, envOf4, envOf5, T1, T3, T5, T38, T93, cvi_64 Try.underlying3 Try.underlying93, cv64_8 Try.underlying93 Try.underlying5, K0_0, K0_1, K1_0, K1_1, K2_0, K2_1]), by (try simp only [List.map_cons, List.map_nil, RH, Nat.reduceAdd, Nat.reduceEqDiff, reduceIte, ev_tmp, ev_const, lit_iv, lit_w8, lit_w32, lit_w64, envOf0, envOf1, envOf2, envOf3, envOf4, envOf5, T1, T3, T5, T38, T93, cvi_64 Try.underlying3 Try.underlying93, cv64_8 Try.underlying93 Try.underlying5, K0_0, K0_1, K1_0, K1_1, K2_0, K2_1]); exact own7, F6.trans ((Fr.new (.refl h.nx h6) n6 .rw 1 _).trans (wt7.owFr (by simp only [RH]; omega) own6.new))⟩
      · intro e6 h6 hK hO hN ⟨j6, own6, F6⟩
        simp only [List.map_cons, List.map_nil, List.cons.injEq, and_true, RH, Nat.reduceAdd, Nat.reduceEqDiff, reduceIte, envOf0, envOf1, envOf2, envOf3, envOf4, envOf5, K0_0, K0_1, K1_0, K1_1] at hK
        obtain ⟨K2_0, K2_1⟩ := hK
        try simp only [RH] at hN
        rw [frB_full] at own6
        repeat (first
          | refine R_seq ?_ | refine R_region ?_ | refine R_nil ?_ | refine Q_seq ?_ | refine Q_norm ?_ | refine Q_seqr ?_ | refine Q_seqx ?_ | refine Q_bl ?_ | refine Q_blr ?_ | refine Q_blx ?_ | refine Q_blo rfl ?_ | refine R_block ?_ | refine R_skip ?_ | refine R_exit ?_ | refine R_ret ?_ | refine I_true ?_ | refine I_false ?_ | refine N_exit ?_ | refine N_ret ?_
          | ((first | apply R_op | apply R_op0)
             · ((repeat (first | simp (maxDischargeDepth := 9) only [RA, Nat.reduceEqDiff, Nat.reduceLT, Nat.reduceLeDiff, Nat.reduceAdd, Nat.reduceSub, Nat.reduceMul, Nat.reduceDiv, Nat.reduceMod, Nat.reducePow, Nat.reduceBEq, Nat.reduceGT, reduceIte, j6, T1, T3, T5, T38, T93, cvi_64 Try.underlying3 Try.underlying93, cv64_8 Try.underlying93 Try.underlying5, K0_0, K0_1, K1_0, K1_1, K2_0, K2_1] | simp (disch := first | assumption | omega) only [RV, j6, K0_0, K0_1, K1_0, K1_1, K2_0, K2_1])) <;> rfl))
          | (apply R_cond
             · (simp only [RE, Nat.reduceEqDiff, Nat.reduceLT, Nat.reduceLeDiff, Nat.reduceBEq, reduceIte] <;> rfl))
          | (apply R_grd
             · (simp only [yieldedA, RY, Nat.reduceEqDiff, reduceIte] <;> rfl)))
        refine ⟨.inr rfl, _, rfl, ?_, F6⟩
        (try simp only [List.map_cons, List.map_nil, RH, Nat.reduceAdd, Nat.reduceEqDiff, reduceIte, ev_tmp, ev_const, lit_iv, lit_w8, lit_w32, lit_w64, envOf0, envOf1, envOf2, envOf3, envOf4, envOf5, packR, T1, T3, T5, T38, T93, cvi_64 Try.underlying3 Try.underlying93, cv64_8 Try.underlying93 Try.underlying5, K0_0, K0_1, K1_0, K1_1, K2_0, K2_1])
        unfold framedS
        exact own6
end Go.Proofs.Ytfehhihllenjiaa
