/- The document's one-time tags: the tag. -/
import Derived.Test.YtfehhihllenjiaaNb
import Derived.Test.YtfehhihllenjiaaKp
import Derived.Test.YtfehhihllenjiaaKc
set_option linter.all false
namespace Go.Proofs.Ytfehhihllenjiaa
open Go.Proofs
theorem leV_rangeD (f : Nat → Nat) (n : Nat) : leV ((List.range n).map f) = dsum f n := by
  induction n with
  | zero => rfl
  | succ n ih => rw [List.range_succ, List.map_append, List.map_cons, List.map_nil, leV_snoc, ih, List.length_map, List.length_range, dsum_succ, Nat.mul_comm]
theorem dsum_at {ac : List Nat} (h : ∀ x ∈ ac, x < 256) (hV : leV ac < P130) : dsum (fun i => ac.getD i 0) 17 = leV ac := by
  have h1 : leV ac < 256 ^ 17 := by rw [p17]; unfold P130 at hV; omega
  rw [← leV_rangeD, leV_range h 17 h1]
theorem xrow_V {ac : List Nat} (h : ∀ x ∈ ac, x < 256) (hV : leV ac < P130) {bl : List (BitVec 8)} (hl : bl.length ≤ 16) : leV ((List.range 17).map fun i => ac.getD i 0 + oneD bl i) = leV ac + leN (bl ++ [1#8]) := by
  have e2 : dsum (oneD bl) 17 = leN (bl ++ [1#8]) := by
    rw [← dsum_bytes (bl ++ [1#8]) (n := 17) (by simp; omega)]
    exact dsum_congr 17 fun i _ => (oneD_eq bl i).symm
  rw [leV_rangeD, dsum_add, dsum_at h hV, e2]
theorem srow_V {ac : List Nat} (h : ∀ x ∈ ac, x < 256) (hV : leV ac < P130) {k : List (BitVec 8)} (hk : k.length = 32) : leV ((List.range 17).map fun i => ac.getD i 0 + (if i < 16 then (k.getD (16 + i) 0#8).toNat else 0)) = leV ac + leN ((k.drop 16).take 16) := by
  have e2 : dsum (fun i => if i < 16 then (k.getD (16 + i) 0#8).toNat else 0) 17 = leN ((k.drop 16).take 16) := by
    rw [← dsum_bytes ((k.drop 16).take 16) (n := 17) (by simp; omega)]
    refine dsum_congr 17 fun i _ => ?_
    by_cases hi : i < 16
    · rw [if_pos hi, List.getD_eq_getElem?_getD, List.getD_eq_getElem?_getD, List.getElem?_take, if_pos hi, List.getElem?_drop]
    · rw [if_neg hi, List.getD_eq_getElem?_getD, List.getElem?_eq_none (by simp; omega)]; rfl
  rw [leV_rangeD, dsum_add, dsum_at h hV, e2]
def xrow (ac : List Nat) (bl : List (BitVec 8)) (k : Nat) : List Nat := (List.range k).map fun i => ac.getD i 0 + oneD bl i
theorem xrow_succ (ac : List Nat) (bl : List (BitVec 8)) (k : Nat) : xrow ac bl k ++ [ac.getD k 0 + oneD bl k] = xrow ac bl (k + 1) := range_snoc _ k
theorem xrow_length (ac : List Nat) (bl : List (BitVec 8)) (k : Nat) : (xrow ac bl k).length = k := by simp [xrow]
def srow (ac : List Nat) (key : List (BitVec 8)) (k : Nat) : List Nat := (List.range k).map fun i => ac.getD i 0 + (if i < 16 then (key.getD (16 + i) 0#8).toNat else 0)
theorem srow_succ (ac : List Nat) (key : List (BitVec 8)) (k : Nat) : srow ac key k ++ [ac.getD k 0 + (if k < 16 then (key.getD (16 + k) 0#8).toNat else 0)] = srow ac key (k + 1) := range_snoc _ k
theorem srow_length (ac : List Nat) (key : List (BitVec 8)) (k : Nat) : (srow ac key k).length = k := by simp [srow]
theorem rows_le {f : Nat → Nat} {M n : Nat} (h : ∀ i, f i ≤ M) : ∀ x ∈ (List.range n).map f, x ≤ M := fun x hx => by
  obtain ⟨i, _, rfl⟩ := List.mem_map.1 hx
  exact h i
theorem leN_take_succ (r : List (BitVec 8)) {m : Nat} (hm : m < r.length) : leN (r.take (m + 1)) = leN (r.take m) + 256 ^ m * (r.getD m 0#8).toNat := by
  rw [List.take_succ, List.getElem?_eq_getElem hm, Option.toList_some, leN_snoc, List.length_take, Nat.min_eq_left (by omega), List.getD_eq_getElem?_getD, List.getElem?_eq_getElem hm]
  rfl
/-- One product more. -/
theorem conv_step {p x : List Nat} {r : List (BitVec 8)} {j m : Nat} (hp : j + m < p.length) (hm : m < r.length) (hV : leV p = leV (x.take j) * leN r + 256 ^ j * (x.getD j 0 * leN (r.take m))) :
    leV (p.set (j + m) (p.getD (j + m) 0 + x.getD j 0 * (r.getD m 0#8).toNat)) = leV (x.take j) * leN r + 256 ^ j * (x.getD j 0 * leN (r.take (m + 1))) := by
  rw [leV_set p (j + m) _ hp, hV, leN_take_succ r hm, Nat.mul_add (x.getD j 0), Nat.mul_add (256 ^ j), Nat.add_assoc]
  congr 2
  rw [Nat.pow_add, Nat.mul_left_comm (x.getD j 0) (256 ^ m), ← Nat.mul_assoc (256 ^ j)]
theorem conv_next {x : List Nat} {r : List (BitVec 8)} {j : Nat} (hj : j < x.length) : leV (x.take j) * leN r + 256 ^ j * (x.getD j 0 * leN r) = leV (x.take (j + 1)) * leN r := by
  rw [leV_take_succ x j hj, Nat.add_mul, Nat.mul_assoc]
attribute [local irreducible] evOps iter evD evF evC evLoad evStore evAlloc evIndexAddr evIndex evLenB evBox evBin evUn evConvert evExtract evSlice evAppend evCopy evNil evBuild evMakeSlice evBuildSlice evBuiltin Program.underlying
attribute [local irreducible] carryL leV clampB cpy polyT polyA polyN blkP xrow srow leN oneD leB
theorem inl64 : inlOf Try.prog 64 = true := by kernel_rfl
theorem iso64 : isoOf Try.prog 64 = false := by kernel_rfl
set_option maxRecDepth 20000 in
set_option maxHeartbeats 8000000 in
theorem sum64 (q : Nat) (h : Heap) (k : List (BitVec 8)) (hk : k.length = 32) (v : Value) (b : List (BitVec 8)) (hb : By h v b) (hl : b.length ≤ 1048576) :
    ∃ v' h', fcall Try.prog (q + 3) (.func (.func 64) #[] #[]) [.agg ⟨b8 k⟩, v] h = some (.ok v', h') ∧ v' = .agg ⟨b8 (polyT k b)⟩ ∧ Fr h.nx h h' := by
  rw [fcall_inl inl64 iso64, evF_eq Try.func64 rfl]
  apply evEnd_of_W
  simp only [Try.f64]
  have hcl := clampB_length k
  have hp16 := fun (H : Heap) (p : Nat) => puts8 (h := H) (b := p) (es := 1) hcl (List.length_replicate (n := 16) (a := 0#8))
  have hck := fun (kd : Kind) (es : Nat) => cut8 (k := kd) (es := es) hk
  repeat (first
    | refine R_seq ?_ | refine R_region ?_ | refine R_nil ?_ | refine Q_seq ?_ | refine Q_norm ?_ | refine Q_seqr ?_ | refine Q_seqx ?_ | refine Q_bl ?_ | refine Q_blr ?_ | refine Q_blx ?_ | refine Q_blo rfl ?_ | refine R_block ?_ | refine R_skip ?_ | refine R_exit ?_ | refine R_ret ?_ | refine I_true ?_ | refine I_false ?_ | refine N_exit ?_ | refine N_ret ?_
    | ((first | apply R_op | apply R_op0)
       · (first | (simp (maxDischargeDepth := 9) only [RA, Nat.reduceEqDiff, Nat.reduceLT, Nat.reduceLeDiff, Nat.reduceAdd, Nat.reduceSub, Nat.reduceMul, Nat.reduceDiv, Nat.reduceMod, Nat.reducePow, Nat.reduceBEq, Nat.reduceGT, reduceIte, hk, hck, clamp66 q k hk, hp16, T1, T3, T5, T30, T38, T56, T57, T111, cvi_8 Try.underlying3 Try.underlying5, cv8_i Try.underlying5 Try.underlying3] <;> rfl) | ((repeat (first | (simp (maxDischargeDepth := 9) only [RA, Nat.reduceEqDiff, Nat.reduceLT, Nat.reduceLeDiff, Nat.reduceAdd, Nat.reduceSub, Nat.reduceMul, Nat.reduceDiv, Nat.reduceMod, Nat.reducePow, Nat.reduceBEq, Nat.reduceGT, reduceIte, hk, hck, clamp66 q k hk, hp16, T1, T3, T5, T30, T38, T56, T57, T111, cvi_8 Try.underlying3 Try.underlying5, cv8_i Try.underlying5 Try.underlying3]; done) | simp (maxDischargeDepth := 9) only [RA, Nat.reduceEqDiff, Nat.reduceLT, Nat.reduceLeDiff, Nat.reduceAdd, Nat.reduceSub, Nat.reduceMul, Nat.reduceDiv, Nat.reduceMod, Nat.reducePow, Nat.reduceBEq, Nat.reduceGT, reduceIte, hk, hck, clamp66 q k hk, hp16, T1, T3, T5, T30, T38, T56, T57, T111, cvi_8 Try.underlying3 Try.underlying5, cv8_i Try.underlying5 Try.underlying3] | simp (disch := first | assumption | omega) only [RV, hk, hck, clamp66 q k hk, hp16, T1, T3, T5, T30, T38, T56, T57, T111, cvi_8 Try.underlying3 Try.underlying5, cv8_i Try.underlying5 Try.underlying3])) <;> rfl)))
    | (apply R_cond
       · (simp only [RE, Nat.reduceEqDiff, Nat.reduceLT, Nat.reduceLeDiff, Nat.reduceBEq, reduceIte] <;> rfl))
    | (apply R_grd
       · (simp only [yieldedA, RY, Nat.reduceEqDiff, reduceIte] <;> rfl)))
  refine W_heap fun H hH => ?_
  have o0 : H.obj h.nx = some (.row .rw 1 (b8 k)) := by rw [hH]; simp [RH]
  have o1 : H.obj (h.nx + 1) = some (.row .rw 1 (b8 (List.replicate 16 0#8))) := by rw [hH]; simp [RH]
  have o2 : H.obj (h.nx + 2) = some (.row .rw 1 (b8 (clampB k))) := by rw [hH]; simp [RH]
  have nH : H.nx = h.nx + 3 := by rw [hH]; simp [RH]
  have FH : Fr h.nx h H := by rw [hH]; (repeat (first | assumption | exact Fr.refl _ _ | refine Fr.new ?_ ?_ _ _ _ | refine Fr.put ?_ ?_ _ | omega | (simp only [RH]; omega)))
  clear hH hp16
  have bH := hb.fr0 FH
  have hrv := hb.lt
  refine W_loopK [1, 2, 4, 5] [h.nx, h.nx + 1, h.nx + 2] (fun j e1 h1 => e1 7 = iv (16 * j) ∧ Fr H.nx H h1 ∧ ∃ ac, Iv h1 (e1 6) ac ∧ (∀ x ∈ ac, x < 256) ∧ ac.length ≤ 43 ∧ leV ac = polyA (leN (clampB k)) b j) (polyN b) (by unfold polyN; omega) ?_ ?_ ?_
  · exact ⟨by (try simp only [List.map_cons, List.map_nil, RH, Nat.reduceAdd, Nat.reduceEqDiff, reduceIte, ev_tmp, ev_const, lit_iv, lit_w8, lit_w32, lit_w64, envOf0, envOf1, envOf2, envOf3, envOf4, envOf5, T1, T3, T5, T30, T38, T56, T57, T111, cvi_8 Try.underlying3 Try.underlying5, cv8_i Try.underlying5 Try.underlying3]), .refl _ _, [], by (try simp only [List.map_cons, List.map_nil, RH, Nat.reduceAdd, Nat.reduceEqDiff, reduceIte, ev_tmp, ev_const, lit_iv, lit_w8, lit_w32, lit_w64, envOf0, envOf1, envOf2, envOf3, envOf4, envOf5, T1, T3, T5, T30, T38, T56, T57, T111, cvi_8 Try.underlying3 Try.underlying5, cv8_i Try.underlying5 Try.underlying3]); exact .nil, (fun x hx => absurd hx List.not_mem_nil), Nat.zero_le _, by unfold leV polyA; rfl⟩
  · intro j hj e1 h1 hK hO hN ⟨j7, F1, ac, a1, hab, hal, hav⟩
    simp only [List.map_cons, List.map_nil, List.cons.injEq, and_true, RH, Nat.reduceAdd, Nat.reduceEqDiff, reduceIte, envOf0, envOf1, envOf2, envOf3, envOf4, envOf5, o0, o1, o2] at hK
    obtain ⟨K0_1, K0_2, K0_4, K0_5⟩ := hK
    simp only [List.map_cons, List.map_nil, List.cons.injEq, and_true, RH, Nat.reduceAdd, Nat.reduceEqDiff, reduceIte, envOf0, envOf1, envOf2, envOf3, envOf4, envOf5, o0, o1, o2] at hO
    obtain ⟨O0_0, O0_1, O0_2⟩ := hO
    try simp only [RH] at hN
    have b1 := bH.fr0 F1
    have n1 := F1.1
    have hjl : 16 * j < b.length := by unfold polyN at hj; omega
    have hbl := blkP_length b j
    have hlt := polyA_lt (leN (clampB k)) b j
    rw [← hav] at hlt
    repeat (first
      | refine R_seq ?_ | refine R_region ?_ | refine R_nil ?_ | refine Q_seq ?_ | refine Q_norm ?_ | refine Q_seqr ?_ | refine Q_seqx ?_ | refine Q_bl ?_ | refine Q_blr ?_ | refine Q_blx ?_ | refine Q_blo rfl ?_ | refine R_block ?_ | refine R_skip ?_ | refine R_exit ?_ | refine R_ret ?_ | refine I_true ?_ | refine I_false ?_ | refine N_exit ?_ | refine N_ret ?_
      | ((first | apply R_op | apply R_op0)
         · (first | (simp (maxDischargeDepth := 9) only [RA, Nat.reduceEqDiff, Nat.reduceLT, Nat.reduceLeDiff, Nat.reduceAdd, Nat.reduceSub, Nat.reduceMul, Nat.reduceDiv, Nat.reduceMod, Nat.reducePow, Nat.reduceBEq, Nat.reduceGT, reduceIte, j7, S38len b1, hjl, T1, T3, T5, T30, T38, T56, T57, T111, cvi_8 Try.underlying3 Try.underlying5, cv8_i Try.underlying5 Try.underlying3, K0_1, K0_2, K0_4, K0_5, O0_0, O0_1, O0_2] <;> rfl) | ((repeat (first | (simp (maxDischargeDepth := 9) only [RA, Nat.reduceEqDiff, Nat.reduceLT, Nat.reduceLeDiff, Nat.reduceAdd, Nat.reduceSub, Nat.reduceMul, Nat.reduceDiv, Nat.reduceMod, Nat.reducePow, Nat.reduceBEq, Nat.reduceGT, reduceIte, j7, S38len b1, hjl, T1, T3, T5, T30, T38, T56, T57, T111, cvi_8 Try.underlying3 Try.underlying5, cv8_i Try.underlying5 Try.underlying3, K0_1, K0_2, K0_4, K0_5, O0_0, O0_1, O0_2]; done) | simp (maxDischargeDepth := 9) only [RA, Nat.reduceEqDiff, Nat.reduceLT, Nat.reduceLeDiff, Nat.reduceAdd, Nat.reduceSub, Nat.reduceMul, Nat.reduceDiv, Nat.reduceMod, Nat.reducePow, Nat.reduceBEq, Nat.reduceGT, reduceIte, j7, S38len b1, hjl, T1, T3, T5, T30, T38, T56, T57, T111, cvi_8 Try.underlying3 Try.underlying5, cv8_i Try.underlying5 Try.underlying3, K0_1, K0_2, K0_4, K0_5, O0_0, O0_1, O0_2] | simp (disch := first | assumption | omega) only [RV, j7, S38len b1, hjl, T1, T3, T5, T30, T38, T56, T57, T111, cvi_8 Try.underlying3 Try.underlying5, cv8_i Try.underlying5 Try.underlying3, K0_1, K0_2, K0_4, K0_5, O0_0, O0_1, O0_2])) <;> rfl)))
      | (apply R_cond
         · (simp only [RE, Nat.reduceEqDiff, Nat.reduceLT, Nat.reduceLeDiff, Nat.reduceBEq, reduceIte] <;> rfl))
      | (apply R_grd
         · (simp only [yieldedA, RY, Nat.reduceEqDiff, reduceIte] <;> rfl)))
    refine I_join (fun e2 h2 => e2 8 = iv (blkP b j).length ∧ e2 1 = v ∧ e2 2 = .pointer (some ⟨h.nx, 0, none⟩) ∧ e2 4 = .pointer (some ⟨h.nx + 1, 0, none⟩) ∧ e2 5 = .pointer (some ⟨h.nx + 2, 0, none⟩) ∧ e2 6 = e1 6 ∧ e2 7 = iv (16 * j) ∧ h2 = h1) ?_ ?_ ?_
    · intro hc
      repeat (first
        | refine R_seq ?_ | refine R_region ?_ | refine R_nil ?_ | refine Q_seq ?_ | refine Q_norm ?_ | refine Q_seqr ?_ | refine Q_seqx ?_ | refine Q_bl ?_ | refine Q_blr ?_ | refine Q_blx ?_ | refine Q_blo rfl ?_ | refine R_block ?_ | refine R_skip ?_ | refine R_exit ?_ | refine R_ret ?_ | refine I_true ?_ | refine I_false ?_ | refine N_exit ?_ | refine N_ret ?_
        | ((first | apply R_op | apply R_op0)
           · (first | (simp (maxDischargeDepth := 9) only [RA, Nat.reduceEqDiff, Nat.reduceLT, Nat.reduceLeDiff, Nat.reduceAdd, Nat.reduceSub, Nat.reduceMul, Nat.reduceDiv, Nat.reduceMod, Nat.reducePow, Nat.reduceBEq, Nat.reduceGT, reduceIte, T1, T3, T5, T30, T38, T56, T57, T111, cvi_8 Try.underlying3 Try.underlying5, cv8_i Try.underlying5 Try.underlying3, K0_1, K0_2, K0_4, K0_5, O0_0, O0_1, O0_2] <;> rfl) | ((repeat (first | (simp (maxDischargeDepth := 9) only [RA, Nat.reduceEqDiff, Nat.reduceLT, Nat.reduceLeDiff, Nat.reduceAdd, Nat.reduceSub, Nat.reduceMul, Nat.reduceDiv, Nat.reduceMod, Nat.reducePow, Nat.reduceBEq, Nat.reduceGT, reduceIte, T1, T3, T5, T30, T38, T56, T57, T111, cvi_8 Try.underlying3 Try.underlying5, cv8_i Try.underlying5 Try.underlying3, K0_1, K0_2, K0_4, K0_5, O0_0, O0_1, O0_2]; done) | simp (maxDischargeDepth := 9) only [RA, Nat.reduceEqDiff, Nat.reduceLT, Nat.reduceLeDiff, Nat.reduceAdd, Nat.reduceSub, Nat.reduceMul, Nat.reduceDiv, Nat.reduceMod, Nat.reducePow, Nat.reduceBEq, Nat.reduceGT, reduceIte, T1, T3, T5, T30, T38, T56, T57, T111, cvi_8 Try.underlying3 Try.underlying5, cv8_i Try.underlying5 Try.underlying3, K0_1, K0_2, K0_4, K0_5, O0_0, O0_1, O0_2] | simp (disch := first | assumption | omega) only [RV, T1, T3, T5, T30, T38, T56, T57, T111, cvi_8 Try.underlying3 Try.underlying5, cv8_i Try.underlying5 Try.underlying3, K0_1, K0_2, K0_4, K0_5, O0_0, O0_1, O0_2])) <;> rfl)))
        | (apply R_cond
           · (simp only [RE, Nat.reduceEqDiff, Nat.reduceLT, Nat.reduceLeDiff, Nat.reduceBEq, reduceIte] <;> rfl))
        | (apply R_grd
           · (simp only [yieldedA, RY, Nat.reduceEqDiff, reduceIte] <;> rfl)))
      exact ⟨rfl, by (try simp only [List.map_cons, List.map_nil, RH, Nat.reduceAdd, Nat.reduceEqDiff, reduceIte, ev_tmp, ev_const, lit_iv, lit_w8, lit_w32, lit_w64, envOf0, envOf1, envOf2, envOf3, envOf4, envOf5, T1, T3, T5, T30, T38, T56, T57, T111, cvi_8 Try.underlying3 Try.underlying5, cv8_i Try.underlying5 Try.underlying3, K0_1, K0_2, K0_4, K0_5, O0_0, O0_1, O0_2]); rw [hbl, Nat.min_eq_left (by omega)], by (try simp only [List.map_cons, List.map_nil, RH, Nat.reduceAdd, Nat.reduceEqDiff, reduceIte, ev_tmp, ev_const, lit_iv, lit_w8, lit_w32, lit_w64, envOf0, envOf1, envOf2, envOf3, envOf4, envOf5, T1, T3, T5, T30, T38, T56, T57, T111, cvi_8 Try.underlying3 Try.underlying5, cv8_i Try.underlying5 Try.underlying3, K0_1, K0_2, K0_4, K0_5, O0_0, O0_1, O0_2]), by (try simp only [List.map_cons, List.map_nil, RH, Nat.reduceAdd, Nat.reduceEqDiff, reduceIte, ev_tmp, ev_const, lit_iv, lit_w8, lit_w32, lit_w64, envOf0, envOf1, envOf2, envOf3, envOf4, envOf5, T1, T3, T5, T30, T38, T56, T57, T111, cvi_8 Try.underlying3 Try.underlying5, cv8_i Try.underlying5 Try.underlying3, K0_1, K0_2, K0_4, K0_5, O0_0, O0_1, O0_2]), by (try simp only [List.map_cons, List.map_nil, RH, Nat.reduceAdd, Nat.reduceEqDiff, reduceIte, ev_tmp, ev_const, lit_iv, lit_w8, lit_w32, lit_w64, envOf0, envOf1, envOf2, envOf3, envOf4, envOf5, T1, T3, T5, T30, T38, T56, T57, T111, cvi_8 Try.underlying3 Try.underlying5, cv8_i Try.underlying5 Try.underlying3, K0_1, K0_2, K0_4, K0_5, O0_0, O0_1, O0_2]), by (try simp only [List.map_cons, List.map_nil, RH, Nat.reduceAdd, Nat.reduceEqDiff, reduceIte, ev_tmp, ev_const, lit_iv, lit_w8, lit_w32, lit_w64, envOf0, envOf1, envOf2, envOf3, envOf4, envOf5, T1, T3, T5, T30, T38, T56, T57, T111, cvi_8 Try.underlying3 Try.underlying5, cv8_i Try.underlying5 Try.underlying3, K0_1, K0_2, K0_4, K0_5, O0_0, O0_1, O0_2]), by (try simp only [List.map_cons, List.map_nil, RH, Nat.reduceAdd, Nat.reduceEqDiff, reduceIte, ev_tmp, ev_const, lit_iv, lit_w8, lit_w32, lit_w64, envOf0, envOf1, envOf2, envOf3, envOf4, envOf5, T1, T3, T5, T30, T38, T56, T57, T111, cvi_8 Try.underlying3 Try.underlying5, cv8_i Try.underlying5 Try.underlying3, K0_1, K0_2, K0_4, K0_5, O0_0, O0_1, O0_2]), by (try simp only [List.map_cons, List.map_nil, RH, Nat.reduceAdd, Nat.reduceEqDiff, reduceIte, ev_tmp, ev_const, lit_iv, lit_w8, lit_w32, lit_w64, envOf0, envOf1, envOf2, envOf3, envOf4, envOf5, j7, T1, T3, T5, T30, T38, T56, T57, T111, cvi_8 Try.underlying3 Try.underlying5, cv8_i Try.underlying5 Try.underlying3, K0_1, K0_2, K0_4, K0_5, O0_0, O0_1, O0_2]), rfl⟩
    · intro hc
      repeat (first
        | refine R_seq ?_ | refine R_region ?_ | refine R_nil ?_ | refine Q_seq ?_ | refine Q_norm ?_ | refine Q_seqr ?_ | refine Q_seqx ?_ | refine Q_bl ?_ | refine Q_blr ?_ | refine Q_blx ?_ | refine Q_blo rfl ?_ | refine R_block ?_ | refine R_skip ?_ | refine R_exit ?_ | refine R_ret ?_ | refine I_true ?_ | refine I_false ?_ | refine N_exit ?_ | refine N_ret ?_
        | ((first | apply R_op | apply R_op0)
           · (first | (simp (maxDischargeDepth := 9) only [RA, Nat.reduceEqDiff, Nat.reduceLT, Nat.reduceLeDiff, Nat.reduceAdd, Nat.reduceSub, Nat.reduceMul, Nat.reduceDiv, Nat.reduceMod, Nat.reducePow, Nat.reduceBEq, Nat.reduceGT, reduceIte, T1, T3, T5, T30, T38, T56, T57, T111, cvi_8 Try.underlying3 Try.underlying5, cv8_i Try.underlying5 Try.underlying3, K0_1, K0_2, K0_4, K0_5, O0_0, O0_1, O0_2] <;> rfl) | ((repeat (first | (simp (maxDischargeDepth := 9) only [RA, Nat.reduceEqDiff, Nat.reduceLT, Nat.reduceLeDiff, Nat.reduceAdd, Nat.reduceSub, Nat.reduceMul, Nat.reduceDiv, Nat.reduceMod, Nat.reducePow, Nat.reduceBEq, Nat.reduceGT, reduceIte, T1, T3, T5, T30, T38, T56, T57, T111, cvi_8 Try.underlying3 Try.underlying5, cv8_i Try.underlying5 Try.underlying3, K0_1, K0_2, K0_4, K0_5, O0_0, O0_1, O0_2]; done) | simp (maxDischargeDepth := 9) only [RA, Nat.reduceEqDiff, Nat.reduceLT, Nat.reduceLeDiff, Nat.reduceAdd, Nat.reduceSub, Nat.reduceMul, Nat.reduceDiv, Nat.reduceMod, Nat.reducePow, Nat.reduceBEq, Nat.reduceGT, reduceIte, T1, T3, T5, T30, T38, T56, T57, T111, cvi_8 Try.underlying3 Try.underlying5, cv8_i Try.underlying5 Try.underlying3, K0_1, K0_2, K0_4, K0_5, O0_0, O0_1, O0_2] | simp (disch := first | assumption | omega) only [RV, T1, T3, T5, T30, T38, T56, T57, T111, cvi_8 Try.underlying3 Try.underlying5, cv8_i Try.underlying5 Try.underlying3, K0_1, K0_2, K0_4, K0_5, O0_0, O0_1, O0_2])) <;> rfl)))
        | (apply R_cond
           · (simp only [RE, Nat.reduceEqDiff, Nat.reduceLT, Nat.reduceLeDiff, Nat.reduceBEq, reduceIte] <;> rfl))
        | (apply R_grd
           · (simp only [yieldedA, RY, Nat.reduceEqDiff, reduceIte] <;> rfl)))
      exact ⟨rfl, by (try simp only [List.map_cons, List.map_nil, RH, Nat.reduceAdd, Nat.reduceEqDiff, reduceIte, ev_tmp, ev_const, lit_iv, lit_w8, lit_w32, lit_w64, envOf0, envOf1, envOf2, envOf3, envOf4, envOf5, T1, T3, T5, T30, T38, T56, T57, T111, cvi_8 Try.underlying3 Try.underlying5, cv8_i Try.underlying5 Try.underlying3, K0_1, K0_2, K0_4, K0_5, O0_0, O0_1, O0_2]); rw [hbl, Nat.min_eq_right (by omega)], by (try simp only [List.map_cons, List.map_nil, RH, Nat.reduceAdd, Nat.reduceEqDiff, reduceIte, ev_tmp, ev_const, lit_iv, lit_w8, lit_w32, lit_w64, envOf0, envOf1, envOf2, envOf3, envOf4, envOf5, T1, T3, T5, T30, T38, T56, T57, T111, cvi_8 Try.underlying3 Try.underlying5, cv8_i Try.underlying5 Try.underlying3, K0_1, K0_2, K0_4, K0_5, O0_0, O0_1, O0_2]), by (try simp only [List.map_cons, List.map_nil, RH, Nat.reduceAdd, Nat.reduceEqDiff, reduceIte, ev_tmp, ev_const, lit_iv, lit_w8, lit_w32, lit_w64, envOf0, envOf1, envOf2, envOf3, envOf4, envOf5, T1, T3, T5, T30, T38, T56, T57, T111, cvi_8 Try.underlying3 Try.underlying5, cv8_i Try.underlying5 Try.underlying3, K0_1, K0_2, K0_4, K0_5, O0_0, O0_1, O0_2]), by (try simp only [List.map_cons, List.map_nil, RH, Nat.reduceAdd, Nat.reduceEqDiff, reduceIte, ev_tmp, ev_const, lit_iv, lit_w8, lit_w32, lit_w64, envOf0, envOf1, envOf2, envOf3, envOf4, envOf5, T1, T3, T5, T30, T38, T56, T57, T111, cvi_8 Try.underlying3 Try.underlying5, cv8_i Try.underlying5 Try.underlying3, K0_1, K0_2, K0_4, K0_5, O0_0, O0_1, O0_2]), by (try simp only [List.map_cons, List.map_nil, RH, Nat.reduceAdd, Nat.reduceEqDiff, reduceIte, ev_tmp, ev_const, lit_iv, lit_w8, lit_w32, lit_w64, envOf0, envOf1, envOf2, envOf3, envOf4, envOf5, T1, T3, T5, T30, T38, T56, T57, T111, cvi_8 Try.underlying3 Try.underlying5, cv8_i Try.underlying5 Try.underlying3, K0_1, K0_2, K0_4, K0_5, O0_0, O0_1, O0_2]), by (try simp only [List.map_cons, List.map_nil, RH, Nat.reduceAdd, Nat.reduceEqDiff, reduceIte, ev_tmp, ev_const, lit_iv, lit_w8, lit_w32, lit_w64, envOf0, envOf1, envOf2, envOf3, envOf4, envOf5, T1, T3, T5, T30, T38, T56, T57, T111, cvi_8 Try.underlying3 Try.underlying5, cv8_i Try.underlying5 Try.underlying3, K0_1, K0_2, K0_4, K0_5, O0_0, O0_1, O0_2]), by (try simp only [List.map_cons, List.map_nil, RH, Nat.reduceAdd, Nat.reduceEqDiff, reduceIte, ev_tmp, ev_const, lit_iv, lit_w8, lit_w32, lit_w64, envOf0, envOf1, envOf2, envOf3, envOf4, envOf5, j7, T1, T3, T5, T30, T38, T56, T57, T111, cvi_8 Try.underlying3 Try.underlying5, cv8_i Try.underlying5 Try.underlying3, K0_1, K0_2, K0_4, K0_5, O0_0, O0_1, O0_2]), rfl⟩
    intro e2 h2 ⟨m8, m1, m2, m4, m5, m6, m7, hh⟩
    subst hh
    have hble : (blkP b j).length ≤ 16 := blkP_le b j
    have hbj : 16 * j + (blkP b j).length ≤ b.length := by rw [hbl]; omega
    have hbg : ∀ i, i < (blkP b j).length → (blkP b j).getD i 0#8 = b.getD (16 * j + i) 0#8 := fun i hi => by
      unfold blkP
      unfold blkP at hi
      rw [List.getD_eq_getElem?_getD, List.getElem?_take, if_pos (by simp at hi; omega), List.getElem?_drop, List.getD_eq_getElem?_getD]
    have hga : ∀ i, ac.getD i 0 ≤ 255 := fun i => getD_le (fun y hy' => by have := hab y hy'; omega) i
    have hxV := xrow_V hab hlt hble
    generalize hbk : blkP b j = bl at m8 hble hbj hbg hxV
    repeat (first
      | refine R_seq ?_ | refine R_region ?_ | refine R_nil ?_ | refine Q_seq ?_ | refine Q_norm ?_ | refine Q_seqr ?_ | refine Q_seqx ?_ | refine Q_bl ?_ | refine Q_blr ?_ | refine Q_blx ?_ | refine Q_blo rfl ?_ | refine R_block ?_ | refine R_skip ?_ | refine R_exit ?_ | refine R_ret ?_ | refine I_true ?_ | refine I_false ?_ | refine N_exit ?_ | refine N_ret ?_
      | ((first | apply R_op | apply R_op0)
         · (first | (simp (maxDischargeDepth := 9) only [RA, Nat.reduceEqDiff, Nat.reduceLT, Nat.reduceLeDiff, Nat.reduceAdd, Nat.reduceSub, Nat.reduceMul, Nat.reduceDiv, Nat.reduceMod, Nat.reducePow, Nat.reduceBEq, Nat.reduceGT, reduceIte, m8, m1, m2, m4, m5, m6, m7, T1, T3, T5, T30, T38, T56, T57, T111, cvi_8 Try.underlying3 Try.underlying5, cv8_i Try.underlying5 Try.underlying3, K0_1, K0_2, K0_4, K0_5, O0_0, O0_1, O0_2] <;> rfl) | ((repeat (first | (simp (maxDischargeDepth := 9) only [RA, Nat.reduceEqDiff, Nat.reduceLT, Nat.reduceLeDiff, Nat.reduceAdd, Nat.reduceSub, Nat.reduceMul, Nat.reduceDiv, Nat.reduceMod, Nat.reducePow, Nat.reduceBEq, Nat.reduceGT, reduceIte, m8, m1, m2, m4, m5, m6, m7, T1, T3, T5, T30, T38, T56, T57, T111, cvi_8 Try.underlying3 Try.underlying5, cv8_i Try.underlying5 Try.underlying3, K0_1, K0_2, K0_4, K0_5, O0_0, O0_1, O0_2]; done) | simp (maxDischargeDepth := 9) only [RA, Nat.reduceEqDiff, Nat.reduceLT, Nat.reduceLeDiff, Nat.reduceAdd, Nat.reduceSub, Nat.reduceMul, Nat.reduceDiv, Nat.reduceMod, Nat.reducePow, Nat.reduceBEq, Nat.reduceGT, reduceIte, m8, m1, m2, m4, m5, m6, m7, T1, T3, T5, T30, T38, T56, T57, T111, cvi_8 Try.underlying3 Try.underlying5, cv8_i Try.underlying5 Try.underlying3, K0_1, K0_2, K0_4, K0_5, O0_0, O0_1, O0_2] | simp (disch := first | assumption | omega) only [RV, m8, m1, m2, m4, m5, m6, m7, T1, T3, T5, T30, T38, T56, T57, T111, cvi_8 Try.underlying3 Try.underlying5, cv8_i Try.underlying5 Try.underlying3, K0_1, K0_2, K0_4, K0_5, O0_0, O0_1, O0_2])) <;> rfl)))
      | (apply R_cond
         · (simp only [RE, Nat.reduceEqDiff, Nat.reduceLT, Nat.reduceLeDiff, Nat.reduceBEq, reduceIte] <;> rfl))
      | (apply R_grd
         · (simp only [yieldedA, RY, Nat.reduceEqDiff, reduceIte] <;> rfl)))
    refine W_loopK [1, 2, 4, 5, 6, 7, 8] [h.nx, h.nx + 1, h.nx + 2] (fun i e3 h3 => e3 10 = iv i ∧ OwI h2.nx h3 (e3 9) (xrow ac bl i) ∧ Fr h2.nx h2 h3) 17 (by omega) ?_ ?_ ?_
    · exact ⟨by (try simp only [List.map_cons, List.map_nil, RH, Nat.reduceAdd, Nat.reduceEqDiff, reduceIte, ev_tmp, ev_const, lit_iv, lit_w8, lit_w32, lit_w64, envOf0, envOf1, envOf2, envOf3, envOf4, envOf5, T1, T3, T5, T30, T38, T56, T57, T111, cvi_8 Try.underlying3 Try.underlying5, cv8_i Try.underlying5 Try.underlying3, K0_1, K0_2, K0_4, K0_5, O0_0, O0_1, O0_2]), by (try simp only [List.map_cons, List.map_nil, RH, Nat.reduceAdd, Nat.reduceEqDiff, reduceIte, ev_tmp, ev_const, lit_iv, lit_w8, lit_w32, lit_w64, envOf0, envOf1, envOf2, envOf3, envOf4, envOf5, T1, T3, T5, T30, T38, T56, T57, T111, cvi_8 Try.underlying3 Try.underlying5, cv8_i Try.underlying5 Try.underlying3, K0_1, K0_2, K0_4, K0_5, O0_0, O0_1, O0_2]); unfold xrow; exact .nil, .refl _ _⟩
    · intro i hi e3 h3 hK hO hN ⟨j10, own3, F3⟩
      simp only [List.map_cons, List.map_nil, List.cons.injEq, and_true, RH, Nat.reduceAdd, Nat.reduceEqDiff, reduceIte, envOf0, envOf1, envOf2, envOf3, envOf4, envOf5, m1, m2, m4, m5, m6, m7, m8, O0_0, O0_1, O0_2, K0_1, K0_2, K0_4, K0_5, O0_0, O0_1, O0_2] at hK
      obtain ⟨K1_1, K1_2, K1_4, K1_5, K1_6, K1_7, K1_8⟩ := hK
      simp only [List.map_cons, List.map_nil, List.cons.injEq, and_true, RH, Nat.reduceAdd, Nat.reduceEqDiff, reduceIte, envOf0, envOf1, envOf2, envOf3, envOf4, envOf5, m1, m2, m4, m5, m6, m7, m8, O0_0, O0_1, O0_2, K0_1, K0_2, K0_4, K0_5, O0_0, O0_1, O0_2] at hO
      obtain ⟨O1_0, O1_1, O1_2⟩ := hO
      try simp only [RH] at hN
      have a3 := a1.fr0 F3
      have b3 := b1.fr0 F3
      have hat := at104 (q + 1) h3 (e1 6) ac i a3
      have n3 := F3.1
      have gi := hga i
      have hsc := xrow_succ ac bl i
      have hxl := xrow_length ac bl i
      rcases (show i < bl.length ∨ i = bl.length ∨ bl.length < i by omega) with hib | hib | hib
      · have hd : oneD bl i = (b.getD (16 * j + i) 0#8).toNat := by unfold oneD; rw [if_pos hib, hbg i hib]
        have hbx := (b.getD (16 * j + i) 0#8).isLt
        have hne : ¬ i = bl.length := by omega
        have hil : 16 * j + i < b.length := by omega
        rw [hd] at hsc
        repeat (first
          | refine R_seq ?_ | refine R_region ?_ | refine R_nil ?_ | refine Q_seq ?_ | refine Q_norm ?_ | refine Q_seqr ?_ | refine Q_seqx ?_ | refine Q_bl ?_ | refine Q_blr ?_ | refine Q_blx ?_ | refine Q_blo rfl ?_ | refine R_block ?_ | refine R_skip ?_ | refine R_exit ?_ | refine R_ret ?_ | refine I_true ?_ | refine I_false ?_ | refine N_exit ?_ | refine N_ret ?_
          | ((first | apply R_op | apply R_op0)
             · (first | (simp (maxDischargeDepth := 9) only [RA, Nat.reduceEqDiff, Nat.reduceLT, Nat.reduceLeDiff, Nat.reduceAdd, Nat.reduceSub, Nat.reduceMul, Nat.reduceDiv, Nat.reduceMod, Nat.reducePow, Nat.reduceBEq, Nat.reduceGT, reduceIte, j10, hi, hat, bs1_111, hib, hne, hil, S38len b3, S38ia b3, S38ld b3, S38h b3, S38l b3, S38lh b3, S38n b3, S38hm b3, S38lhm b3, S38str b3, RF, fr_refl, T1, T3, T5, T30, T38, T56, T57, T111, cvi_8 Try.underlying3 Try.underlying5, cv8_i Try.underlying5 Try.underlying3, K0_1, K0_2, K0_4, K0_5, O0_0, O0_1, O0_2, K1_1, K1_2, K1_4, K1_5, K1_6, K1_7, K1_8, O1_0, O1_1, O1_2] <;> rfl) | ((repeat (first | (simp (maxDischargeDepth := 9) only [RA, Nat.reduceEqDiff, Nat.reduceLT, Nat.reduceLeDiff, Nat.reduceAdd, Nat.reduceSub, Nat.reduceMul, Nat.reduceDiv, Nat.reduceMod, Nat.reducePow, Nat.reduceBEq, Nat.reduceGT, reduceIte, j10, hi, hat, bs1_111, hib, hne, hil, S38len b3, S38ia b3, S38ld b3, S38h b3, S38l b3, S38lh b3, S38n b3, S38hm b3, S38lhm b3, S38str b3, RF, fr_refl, T1, T3, T5, T30, T38, T56, T57, T111, cvi_8 Try.underlying3 Try.underlying5, cv8_i Try.underlying5 Try.underlying3, K0_1, K0_2, K0_4, K0_5, O0_0, O0_1, O0_2, K1_1, K1_2, K1_4, K1_5, K1_6, K1_7, K1_8, O1_0, O1_1, O1_2]; done) | simp (maxDischargeDepth := 9) only [RA, Nat.reduceEqDiff, Nat.reduceLT, Nat.reduceLeDiff, Nat.reduceAdd, Nat.reduceSub, Nat.reduceMul, Nat.reduceDiv, Nat.reduceMod, Nat.reducePow, Nat.reduceBEq, Nat.reduceGT, reduceIte, j10, hi, hat, bs1_111, hib, hne, hil, S38len b3, S38ia b3, S38ld b3, S38h b3, S38l b3, S38lh b3, S38n b3, S38hm b3, S38lhm b3, S38str b3, RF, fr_refl, T1, T3, T5, T30, T38, T56, T57, T111, cvi_8 Try.underlying3 Try.underlying5, cv8_i Try.underlying5 Try.underlying3, K0_1, K0_2, K0_4, K0_5, O0_0, O0_1, O0_2, K1_1, K1_2, K1_4, K1_5, K1_6, K1_7, K1_8, O1_0, O1_1, O1_2] | simp (disch := first | assumption | omega) only [RV, j10, hi, hat, bs1_111, hib, hne, hil, S38len b3, S38ia b3, S38ld b3, S38h b3, S38l b3, S38lh b3, S38n b3, S38hm b3, S38lhm b3, S38str b3, RF, fr_refl, T1, T3, T5, T30, T38, T56, T57, T111, cvi_8 Try.underlying3 Try.underlying5, cv8_i Try.underlying5 Try.underlying3, K0_1, K0_2, K0_4, K0_5, O0_0, O0_1, O0_2, K1_1, K1_2, K1_4, K1_5, K1_6, K1_7, K1_8, O1_0, O1_1, O1_2])) <;> rfl)))
          | (apply R_cond
             · (simp only [RE, Nat.reduceEqDiff, Nat.reduceLT, Nat.reduceLeDiff, Nat.reduceBEq, reduceIte] <;> rfl))
          | (apply R_grd
             · (simp only [yieldedA, RY, Nat.reduceEqDiff, reduceIte] <;> rfl)))
        refine R_appI E111 Try.underlying111 (v := e3 9) (x := ac.getD i 0 + (b.getD (16 * j + i) 0#8).toNat) (p := h3.nx) (lo := h2.nx) (xs := xrow ac bl i) ?_ ?_ own3.new (by simp only [RH]; omega) (by simp only [RH]) (by simp only [RH]; omega) (by omega) ?_
        · first | rfl | (first | rw [ev_tmp] | rw [ev_const] | skip) <;> simp only [upd_apply, Nat.reduceEqDiff, if_true, if_false, reduceIte, lit_iv, lit_w8, K0_1, K0_2, K0_4, K0_5, O0_0, O0_1, O0_2, K1_1, K1_2, K1_4, K1_5, K1_6, K1_7, K1_8, O1_0, O1_1, O1_2]
        · first | rfl | (first | rw [ev_tmp] | rw [ev_const] | skip) <;> simp only [upd_apply, Nat.reduceEqDiff, if_true, if_false, reduceIte, lit_iv, lit_w8, K0_1, K0_2, K0_4, K0_5, O0_0, O0_1, O0_2, K1_1, K1_2, K1_4, K1_5, K1_6, K1_7, K1_8, O1_0, O1_1, O1_2]
        intro v4 h4 own4 wt4
        rw [hsc] at own4
        have n4 := wt4.nx
        simp only [RH] at n4
        have F4 := F3.trans ((Fr.new (.refl h2.nx h3) n3 .rw 1 _).trans (wt4.owFr (by simp only [RH]; omega) own3.new))
        have w0 := F4.2 h.nx (by omega)
        rw [O0_0] at w0
        have w1 := F4.2 (h.nx + 1) (by omega)
        rw [O0_1] at w1
        have w2 := F4.2 (h.nx + 2) (by omega)
        rw [O0_2] at w2
        repeat (first
          | refine R_seq ?_ | refine R_region ?_ | refine R_nil ?_ | refine Q_seq ?_ | refine Q_norm ?_ | refine Q_seqr ?_ | refine Q_seqx ?_ | refine Q_bl ?_ | refine Q_blr ?_ | refine Q_blx ?_ | refine Q_blo rfl ?_ | refine R_block ?_ | refine R_skip ?_ | refine R_exit ?_ | refine R_ret ?_ | refine I_true ?_ | refine I_false ?_ | refine N_exit ?_ | refine N_ret ?_
          | ((first | apply R_op | apply R_op0)
             · (first | (simp (maxDischargeDepth := 9) only [RA, Nat.reduceEqDiff, Nat.reduceLT, Nat.reduceLeDiff, Nat.reduceAdd, Nat.reduceSub, Nat.reduceMul, Nat.reduceDiv, Nat.reduceMod, Nat.reducePow, Nat.reduceBEq, Nat.reduceGT, reduceIte, j10, T1, T3, T5, T30, T38, T56, T57, T111, cvi_8 Try.underlying3 Try.underlying5, cv8_i Try.underlying5 Try.underlying3, K0_1, K0_2, K0_4, K0_5, O0_0, O0_1, O0_2, K1_1, K1_2, K1_4, K1_5, K1_6, K1_7, K1_8, O1_0, O1_1, O1_2] <;> rfl) | ((repeat (first | (simp (maxDischargeDepth := 9) only [RA, Nat.reduceEqDiff, Nat.reduceLT, Nat.reduceLeDiff, Nat.reduceAdd, Nat.reduceSub, Nat.reduceMul, Nat.reduceDiv, Nat.reduceMod, Nat.reducePow, Nat.reduceBEq, Nat.reduceGT, reduceIte, j10, T1, T3, T5, T30, T38, T56, T57, T111, cvi_8 Try.underlying3 Try.underlying5, cv8_i Try.underlying5 Try.underlying3, K0_1, K0_2, K0_4, K0_5, O0_0, O0_1, O0_2, K1_1, K1_2, K1_4, K1_5, K1_6, K1_7, K1_8, O1_0, O1_1, O1_2]; done) | simp (maxDischargeDepth := 9) only [RA, Nat.reduceEqDiff, Nat.reduceLT, Nat.reduceLeDiff, Nat.reduceAdd, Nat.reduceSub, Nat.reduceMul, Nat.reduceDiv, Nat.reduceMod, Nat.reducePow, Nat.reduceBEq, Nat.reduceGT, reduceIte, j10, T1, T3, T5, T30, T38, T56, T57, T111, cvi_8 Try.underlying3 Try.underlying5, cv8_i Try.underlying5 Try.underlying3, K0_1, K0_2, K0_4, K0_5, O0_0, O0_1, O0_2, K1_1, K1_2, K1_4, K1_5, K1_6, K1_7, K1_8, O1_0, O1_1, O1_2] | simp (disch := first | assumption | omega) only [RV, j10, T1, T3, T5, T30, T38, T56, T57, T111, cvi_8 Try.underlying3 Try.underlying5, cv8_i Try.underlying5 Try.underlying3, K0_1, K0_2, K0_4, K0_5, O0_0, O0_1, O0_2, K1_1, K1_2, K1_4, K1_5, K1_6, K1_7, K1_8, O1_0, O1_1, O1_2])) <;> rfl)))
          | (apply R_cond
             · (simp only [RE, Nat.reduceEqDiff, Nat.reduceLT, Nat.reduceLeDiff, Nat.reduceBEq, reduceIte] <;> rfl))
          | (apply R_grd
             · (simp only [yieldedA, RY, Nat.reduceEqDiff, reduceIte] <;> rfl)))
        refine ⟨rfl, by first | rfl | simp only [List.map_cons, List.map_nil, RH, Nat.reduceAdd, Nat.reduceEqDiff, reduceIte, w0, w1, w2, T1, T3, T5, T30, T38, T56, T57, T111, cvi_8 Try.underlying3 Try.underlying5, cv8_i Try.underlying5 Try.underlying3, K0_1, K0_2, K0_4, K0_5, O0_0, O0_1, O0_2, K1_1, K1_2, K1_4, K1_5, K1_6, K1_7, K1_8, O1_0, O1_1, O1_2], by first | rfl | simp only [List.map_cons, List.map_nil, RH, Nat.reduceAdd, Nat.reduceEqDiff, reduceIte, w0, w1, w2, T1, T3, T5, T30, T38, T56, T57, T111, cvi_8 Try.underlying3 Try.underlying5, cv8_i Try.underlying5 Try.underlying3, K0_1, K0_2, K0_4, K0_5, O0_0, O0_1, O0_2, K1_1, K1_2, K1_4, K1_5, K1_6, K1_7, K1_8, O1_0, O1_1, O1_2], by first | (simp only [RH, w0, w1, w2, T1, T3, T5, T30, T38, T56, T57, T111, cvi_8 Try.underlying3 Try.underlying5, cv8_i Try.underlying5 Try.underlying3, K0_1, K0_2, K0_4, K0_5, O0_0, O0_1, O0_2, K1_1, K1_2, K1_4, K1_5, K1_6, K1_7, K1_8, O1_0, O1_1, O1_2]; done) | ((try simp only [RH, w0, w1, w2, T1, T3, T5, T30, T38, T56, T57, T111, cvi_8 Try.underlying3 Try.underlying5, cv8_i Try.underlying5 Try.underlying3, K0_1, K0_2, K0_4, K0_5, O0_0, O0_1, O0_2, K1_1, K1_2, K1_4, K1_5, K1_6, K1_7, K1_8, O1_0, O1_1, O1_2]); omega), ?_⟩
        exact ⟨by (try simp only [List.map_cons, List.map_nil, RH, Nat.reduceAdd, Nat.reduceEqDiff, reduceIte, ev_tmp, ev_const, lit_iv, lit_w8, lit_w32, lit_w64, envOf0, envOf1, envOf2, envOf3, envOf4, envOf5, T1, T3, T5, T30, T38, T56, T57, T111, cvi_8 Try.underlying3 Try.underlying5, cv8_i Try.underlying5 Try.underlying3, K0_1, K0_2, K0_4, K0_5, O0_0, O0_1, O0_2, K1_1, K1_2, K1_4, K1_5, K1_6, K1_7, K1_8, O1_0, O1_1, O1_2]), by (try simp only [List.map_cons, List.map_nil, RH, Nat.reduceAdd, Nat.reduceEqDiff, reduceIte, ev_tmp, ev_const, lit_iv, lit_w8, lit_w32, lit_w64, envOf0, envOf1, envOf2, envOf3, envOf4, envOf5, T1, T3, T5, T30, T38, T56, T57, T111, cvi_8 Try.underlying3 Try.underlying5, cv8_i Try.underlying5 Try.underlying3, K0_1, K0_2, K0_4, K0_5, O0_0, O0_1, O0_2, K1_1, K1_2, K1_4, K1_5, K1_6, K1_7, K1_8, O1_0, O1_1, O1_2]); exact own4, F4⟩
      · have hd : oneD bl i = 1 := by unfold oneD; rw [if_neg (by omega), if_pos hib]
        have hlt' : ¬ i < bl.length := by omega
        rw [hd] at hsc
        repeat (first
          | refine R_seq ?_ | refine R_region ?_ | refine R_nil ?_ | refine Q_seq ?_ | refine Q_norm ?_ | refine Q_seqr ?_ | refine Q_seqx ?_ | refine Q_bl ?_ | refine Q_blr ?_ | refine Q_blx ?_ | refine Q_blo rfl ?_ | refine R_block ?_ | refine R_skip ?_ | refine R_exit ?_ | refine R_ret ?_ | refine I_true ?_ | refine I_false ?_ | refine N_exit ?_ | refine N_ret ?_
          | ((first | apply R_op | apply R_op0)
             · (first | (simp (maxDischargeDepth := 9) only [RA, Nat.reduceEqDiff, Nat.reduceLT, Nat.reduceLeDiff, Nat.reduceAdd, Nat.reduceSub, Nat.reduceMul, Nat.reduceDiv, Nat.reduceMod, Nat.reducePow, Nat.reduceBEq, Nat.reduceGT, reduceIte, j10, hi, hat, bs1_111, eq_true hib, hlt', T1, T3, T5, T30, T38, T56, T57, T111, cvi_8 Try.underlying3 Try.underlying5, cv8_i Try.underlying5 Try.underlying3, K0_1, K0_2, K0_4, K0_5, O0_0, O0_1, O0_2, K1_1, K1_2, K1_4, K1_5, K1_6, K1_7, K1_8, O1_0, O1_1, O1_2] <;> rfl) | ((repeat (first | (simp (maxDischargeDepth := 9) only [RA, Nat.reduceEqDiff, Nat.reduceLT, Nat.reduceLeDiff, Nat.reduceAdd, Nat.reduceSub, Nat.reduceMul, Nat.reduceDiv, Nat.reduceMod, Nat.reducePow, Nat.reduceBEq, Nat.reduceGT, reduceIte, j10, hi, hat, bs1_111, eq_true hib, hlt', T1, T3, T5, T30, T38, T56, T57, T111, cvi_8 Try.underlying3 Try.underlying5, cv8_i Try.underlying5 Try.underlying3, K0_1, K0_2, K0_4, K0_5, O0_0, O0_1, O0_2, K1_1, K1_2, K1_4, K1_5, K1_6, K1_7, K1_8, O1_0, O1_1, O1_2]; done) | simp (maxDischargeDepth := 9) only [RA, Nat.reduceEqDiff, Nat.reduceLT, Nat.reduceLeDiff, Nat.reduceAdd, Nat.reduceSub, Nat.reduceMul, Nat.reduceDiv, Nat.reduceMod, Nat.reducePow, Nat.reduceBEq, Nat.reduceGT, reduceIte, j10, hi, hat, bs1_111, eq_true hib, hlt', T1, T3, T5, T30, T38, T56, T57, T111, cvi_8 Try.underlying3 Try.underlying5, cv8_i Try.underlying5 Try.underlying3, K0_1, K0_2, K0_4, K0_5, O0_0, O0_1, O0_2, K1_1, K1_2, K1_4, K1_5, K1_6, K1_7, K1_8, O1_0, O1_1, O1_2] | simp (disch := first | assumption | omega) only [RV, j10, hi, hat, bs1_111, eq_true hib, hlt', T1, T3, T5, T30, T38, T56, T57, T111, cvi_8 Try.underlying3 Try.underlying5, cv8_i Try.underlying5 Try.underlying3, K0_1, K0_2, K0_4, K0_5, O0_0, O0_1, O0_2, K1_1, K1_2, K1_4, K1_5, K1_6, K1_7, K1_8, O1_0, O1_1, O1_2])) <;> rfl)))
          | (apply R_cond
             · (simp only [RE, Nat.reduceEqDiff, Nat.reduceLT, Nat.reduceLeDiff, Nat.reduceBEq, reduceIte] <;> rfl))
          | (apply R_grd
             · (simp only [yieldedA, RY, Nat.reduceEqDiff, reduceIte] <;> rfl)))
        refine R_appI E111 Try.underlying111 (v := e3 9) (x := ac.getD i 0 + 1) (p := h3.nx) (lo := h2.nx) (xs := xrow ac bl i) ?_ ?_ own3.new (by simp only [RH]; omega) (by simp only [RH]) (by simp only [RH]; omega) (by omega) ?_
        · first | rfl | (first | rw [ev_tmp] | rw [ev_const] | skip) <;> simp only [upd_apply, Nat.reduceEqDiff, if_true, if_false, reduceIte, lit_iv, lit_w8, K0_1, K0_2, K0_4, K0_5, O0_0, O0_1, O0_2, K1_1, K1_2, K1_4, K1_5, K1_6, K1_7, K1_8, O1_0, O1_1, O1_2]
        · first | rfl | (first | rw [ev_tmp] | rw [ev_const] | skip) <;> simp only [upd_apply, Nat.reduceEqDiff, if_true, if_false, reduceIte, lit_iv, lit_w8, K0_1, K0_2, K0_4, K0_5, O0_0, O0_1, O0_2, K1_1, K1_2, K1_4, K1_5, K1_6, K1_7, K1_8, O1_0, O1_1, O1_2]
        intro v4 h4 own4 wt4
        rw [hsc] at own4
        have n4 := wt4.nx
        simp only [RH] at n4
        have F4 := F3.trans ((Fr.new (.refl h2.nx h3) n3 .rw 1 _).trans (wt4.owFr (by simp only [RH]; omega) own3.new))
        have w0 := F4.2 h.nx (by omega)
        rw [O0_0] at w0
        have w1 := F4.2 (h.nx + 1) (by omega)
        rw [O0_1] at w1
        have w2 := F4.2 (h.nx + 2) (by omega)
        rw [O0_2] at w2
        repeat (first
          | refine R_seq ?_ | refine R_region ?_ | refine R_nil ?_ | refine Q_seq ?_ | refine Q_norm ?_ | refine Q_seqr ?_ | refine Q_seqx ?_ | refine Q_bl ?_ | refine Q_blr ?_ | refine Q_blx ?_ | refine Q_blo rfl ?_ | refine R_block ?_ | refine R_skip ?_ | refine R_exit ?_ | refine R_ret ?_ | refine I_true ?_ | refine I_false ?_ | refine N_exit ?_ | refine N_ret ?_
          | ((first | apply R_op | apply R_op0)
             · (first | (simp (maxDischargeDepth := 9) only [RA, Nat.reduceEqDiff, Nat.reduceLT, Nat.reduceLeDiff, Nat.reduceAdd, Nat.reduceSub, Nat.reduceMul, Nat.reduceDiv, Nat.reduceMod, Nat.reducePow, Nat.reduceBEq, Nat.reduceGT, reduceIte, j10, T1, T3, T5, T30, T38, T56, T57, T111, cvi_8 Try.underlying3 Try.underlying5, cv8_i Try.underlying5 Try.underlying3, K0_1, K0_2, K0_4, K0_5, O0_0, O0_1, O0_2, K1_1, K1_2, K1_4, K1_5, K1_6, K1_7, K1_8, O1_0, O1_1, O1_2] <;> rfl) | ((repeat (first | (simp (maxDischargeDepth := 9) only [RA, Nat.reduceEqDiff, Nat.reduceLT, Nat.reduceLeDiff, Nat.reduceAdd, Nat.reduceSub, Nat.reduceMul, Nat.reduceDiv, Nat.reduceMod, Nat.reducePow, Nat.reduceBEq, Nat.reduceGT, reduceIte, j10, T1, T3, T5, T30, T38, T56, T57, T111, cvi_8 Try.underlying3 Try.underlying5, cv8_i Try.underlying5 Try.underlying3, K0_1, K0_2, K0_4, K0_5, O0_0, O0_1, O0_2, K1_1, K1_2, K1_4, K1_5, K1_6, K1_7, K1_8, O1_0, O1_1, O1_2]; done) | simp (maxDischargeDepth := 9) only [RA, Nat.reduceEqDiff, Nat.reduceLT, Nat.reduceLeDiff, Nat.reduceAdd, Nat.reduceSub, Nat.reduceMul, Nat.reduceDiv, Nat.reduceMod, Nat.reducePow, Nat.reduceBEq, Nat.reduceGT, reduceIte, j10, T1, T3, T5, T30, T38, T56, T57, T111, cvi_8 Try.underlying3 Try.underlying5, cv8_i Try.underlying5 Try.underlying3, K0_1, K0_2, K0_4, K0_5, O0_0, O0_1, O0_2, K1_1, K1_2, K1_4, K1_5, K1_6, K1_7, K1_8, O1_0, O1_1, O1_2] | simp (disch := first | assumption | omega) only [RV, j10, T1, T3, T5, T30, T38, T56, T57, T111, cvi_8 Try.underlying3 Try.underlying5, cv8_i Try.underlying5 Try.underlying3, K0_1, K0_2, K0_4, K0_5, O0_0, O0_1, O0_2, K1_1, K1_2, K1_4, K1_5, K1_6, K1_7, K1_8, O1_0, O1_1, O1_2])) <;> rfl)))
          | (apply R_cond
             · (simp only [RE, Nat.reduceEqDiff, Nat.reduceLT, Nat.reduceLeDiff, Nat.reduceBEq, reduceIte] <;> rfl))
          | (apply R_grd
             · (simp only [yieldedA, RY, Nat.reduceEqDiff, reduceIte] <;> rfl)))
        refine ⟨rfl, by first | rfl | simp only [List.map_cons, List.map_nil, RH, Nat.reduceAdd, Nat.reduceEqDiff, reduceIte, w0, w1, w2, T1, T3, T5, T30, T38, T56, T57, T111, cvi_8 Try.underlying3 Try.underlying5, cv8_i Try.underlying5 Try.underlying3, K0_1, K0_2, K0_4, K0_5, O0_0, O0_1, O0_2, K1_1, K1_2, K1_4, K1_5, K1_6, K1_7, K1_8, O1_0, O1_1, O1_2], by first | rfl | simp only [List.map_cons, List.map_nil, RH, Nat.reduceAdd, Nat.reduceEqDiff, reduceIte, w0, w1, w2, T1, T3, T5, T30, T38, T56, T57, T111, cvi_8 Try.underlying3 Try.underlying5, cv8_i Try.underlying5 Try.underlying3, K0_1, K0_2, K0_4, K0_5, O0_0, O0_1, O0_2, K1_1, K1_2, K1_4, K1_5, K1_6, K1_7, K1_8, O1_0, O1_1, O1_2], by first | (simp only [RH, w0, w1, w2, T1, T3, T5, T30, T38, T56, T57, T111, cvi_8 Try.underlying3 Try.underlying5, cv8_i Try.underlying5 Try.underlying3, K0_1, K0_2, K0_4, K0_5, O0_0, O0_1, O0_2, K1_1, K1_2, K1_4, K1_5, K1_6, K1_7, K1_8, O1_0, O1_1, O1_2]; done) | ((try simp only [RH, w0, w1, w2, T1, T3, T5, T30, T38, T56, T57, T111, cvi_8 Try.underlying3 Try.underlying5, cv8_i Try.underlying5 Try.underlying3, K0_1, K0_2, K0_4, K0_5, O0_0, O0_1, O0_2, K1_1, K1_2, K1_4, K1_5, K1_6, K1_7, K1_8, O1_0, O1_1, O1_2]); omega), ?_⟩
        exact ⟨by (try simp only [List.map_cons, List.map_nil, RH, Nat.reduceAdd, Nat.reduceEqDiff, reduceIte, ev_tmp, ev_const, lit_iv, lit_w8, lit_w32, lit_w64, envOf0, envOf1, envOf2, envOf3, envOf4, envOf5, T1, T3, T5, T30, T38, T56, T57, T111, cvi_8 Try.underlying3 Try.underlying5, cv8_i Try.underlying5 Try.underlying3, K0_1, K0_2, K0_4, K0_5, O0_0, O0_1, O0_2, K1_1, K1_2, K1_4, K1_5, K1_6, K1_7, K1_8, O1_0, O1_1, O1_2]), by (try simp only [List.map_cons, List.map_nil, RH, Nat.reduceAdd, Nat.reduceEqDiff, reduceIte, ev_tmp, ev_const, lit_iv, lit_w8, lit_w32, lit_w64, envOf0, envOf1, envOf2, envOf3, envOf4, envOf5, T1, T3, T5, T30, T38, T56, T57, T111, cvi_8 Try.underlying3 Try.underlying5, cv8_i Try.underlying5 Try.underlying3, K0_1, K0_2, K0_4, K0_5, O0_0, O0_1, O0_2, K1_1, K1_2, K1_4, K1_5, K1_6, K1_7, K1_8, O1_0, O1_1, O1_2]); exact own4, F4⟩
      · have hd : oneD bl i = 0 := by unfold oneD; rw [if_neg (by omega), if_neg (by omega)]
        have hlt' : ¬ i < bl.length := by omega
        have hne : ¬ i = bl.length := by omega
        rw [hd, Nat.add_zero] at hsc
        repeat (first
          | refine R_seq ?_ | refine R_region ?_ | refine R_nil ?_ | refine Q_seq ?_ | refine Q_norm ?_ | refine Q_seqr ?_ | refine Q_seqx ?_ | refine Q_bl ?_ | refine Q_blr ?_ | refine Q_blx ?_ | refine Q_blo rfl ?_ | refine R_block ?_ | refine R_skip ?_ | refine R_exit ?_ | refine R_ret ?_ | refine I_true ?_ | refine I_false ?_ | refine N_exit ?_ | refine N_ret ?_
          | ((first | apply R_op | apply R_op0)
             · (first | (simp (maxDischargeDepth := 9) only [RA, Nat.reduceEqDiff, Nat.reduceLT, Nat.reduceLeDiff, Nat.reduceAdd, Nat.reduceSub, Nat.reduceMul, Nat.reduceDiv, Nat.reduceMod, Nat.reducePow, Nat.reduceBEq, Nat.reduceGT, reduceIte, j10, hi, hat, bs1_111, hlt', hne, T1, T3, T5, T30, T38, T56, T57, T111, cvi_8 Try.underlying3 Try.underlying5, cv8_i Try.underlying5 Try.underlying3, K0_1, K0_2, K0_4, K0_5, O0_0, O0_1, O0_2, K1_1, K1_2, K1_4, K1_5, K1_6, K1_7, K1_8, O1_0, O1_1, O1_2] <;> rfl) | ((repeat (first | (simp (maxDischargeDepth := 9) only [RA, Nat.reduceEqDiff, Nat.reduceLT, Nat.reduceLeDiff, Nat.reduceAdd, Nat.reduceSub, Nat.reduceMul, Nat.reduceDiv, Nat.reduceMod, Nat.reducePow, Nat.reduceBEq, Nat.reduceGT, reduceIte, j10, hi, hat, bs1_111, hlt', hne, T1, T3, T5, T30, T38, T56, T57, T111, cvi_8 Try.underlying3 Try.underlying5, cv8_i Try.underlying5 Try.underlying3, K0_1, K0_2, K0_4, K0_5, O0_0, O0_1, O0_2, K1_1, K1_2, K1_4, K1_5, K1_6, K1_7, K1_8, O1_0, O1_1, O1_2]; done) | simp (maxDischargeDepth := 9) only [RA, Nat.reduceEqDiff, Nat.reduceLT, Nat.reduceLeDiff, Nat.reduceAdd, Nat.reduceSub, Nat.reduceMul, Nat.reduceDiv, Nat.reduceMod, Nat.reducePow, Nat.reduceBEq, Nat.reduceGT, reduceIte, j10, hi, hat, bs1_111, hlt', hne, T1, T3, T5, T30, T38, T56, T57, T111, cvi_8 Try.underlying3 Try.underlying5, cv8_i Try.underlying5 Try.underlying3, K0_1, K0_2, K0_4, K0_5, O0_0, O0_1, O0_2, K1_1, K1_2, K1_4, K1_5, K1_6, K1_7, K1_8, O1_0, O1_1, O1_2] | simp (disch := first | assumption | omega) only [RV, j10, hi, hat, bs1_111, hlt', hne, T1, T3, T5, T30, T38, T56, T57, T111, cvi_8 Try.underlying3 Try.underlying5, cv8_i Try.underlying5 Try.underlying3, K0_1, K0_2, K0_4, K0_5, O0_0, O0_1, O0_2, K1_1, K1_2, K1_4, K1_5, K1_6, K1_7, K1_8, O1_0, O1_1, O1_2])) <;> rfl)))
          | (apply R_cond
             · (simp only [RE, Nat.reduceEqDiff, Nat.reduceLT, Nat.reduceLeDiff, Nat.reduceBEq, reduceIte] <;> rfl))
          | (apply R_grd
             · (simp only [yieldedA, RY, Nat.reduceEqDiff, reduceIte] <;> rfl)))
        refine R_appI E111 Try.underlying111 (v := e3 9) (x := ac.getD i 0) (p := h3.nx) (lo := h2.nx) (xs := xrow ac bl i) ?_ ?_ own3.new (by simp only [RH]; omega) (by simp only [RH]) (by simp only [RH]; omega) (by omega) ?_
        · first | rfl | (first | rw [ev_tmp] | rw [ev_const] | skip) <;> simp only [upd_apply, Nat.reduceEqDiff, if_true, if_false, reduceIte, lit_iv, lit_w8, K0_1, K0_2, K0_4, K0_5, O0_0, O0_1, O0_2, K1_1, K1_2, K1_4, K1_5, K1_6, K1_7, K1_8, O1_0, O1_1, O1_2]
        · first | rfl | (first | rw [ev_tmp] | rw [ev_const] | skip) <;> simp only [upd_apply, Nat.reduceEqDiff, if_true, if_false, reduceIte, lit_iv, lit_w8, K0_1, K0_2, K0_4, K0_5, O0_0, O0_1, O0_2, K1_1, K1_2, K1_4, K1_5, K1_6, K1_7, K1_8, O1_0, O1_1, O1_2]
        intro v4 h4 own4 wt4
        rw [hsc] at own4
        have n4 := wt4.nx
        simp only [RH] at n4
        have F4 := F3.trans ((Fr.new (.refl h2.nx h3) n3 .rw 1 _).trans (wt4.owFr (by simp only [RH]; omega) own3.new))
        have w0 := F4.2 h.nx (by omega)
        rw [O0_0] at w0
        have w1 := F4.2 (h.nx + 1) (by omega)
        rw [O0_1] at w1
        have w2 := F4.2 (h.nx + 2) (by omega)
        rw [O0_2] at w2
        repeat (first
          | refine R_seq ?_ | refine R_region ?_ | refine R_nil ?_ | refine Q_seq ?_ | refine Q_norm ?_ | refine Q_seqr ?_ | refine Q_seqx ?_ | refine Q_bl ?_ | refine Q_blr ?_ | refine Q_blx ?_ | refine Q_blo rfl ?_ | refine R_block ?_ | refine R_skip ?_ | refine R_exit ?_ | refine R_ret ?_ | refine I_true ?_ | refine I_false ?_ | refine N_exit ?_ | refine N_ret ?_
          | ((first | apply R_op | apply R_op0)
             · (first | (simp (maxDischargeDepth := 9) only [RA, Nat.reduceEqDiff, Nat.reduceLT, Nat.reduceLeDiff, Nat.reduceAdd, Nat.reduceSub, Nat.reduceMul, Nat.reduceDiv, Nat.reduceMod, Nat.reducePow, Nat.reduceBEq, Nat.reduceGT, reduceIte, j10, T1, T3, T5, T30, T38, T56, T57, T111, cvi_8 Try.underlying3 Try.underlying5, cv8_i Try.underlying5 Try.underlying3, K0_1, K0_2, K0_4, K0_5, O0_0, O0_1, O0_2, K1_1, K1_2, K1_4, K1_5, K1_6, K1_7, K1_8, O1_0, O1_1, O1_2] <;> rfl) | ((repeat (first | (simp (maxDischargeDepth := 9) only [RA, Nat.reduceEqDiff, Nat.reduceLT, Nat.reduceLeDiff, Nat.reduceAdd, Nat.reduceSub, Nat.reduceMul, Nat.reduceDiv, Nat.reduceMod, Nat.reducePow, Nat.reduceBEq, Nat.reduceGT, reduceIte, j10, T1, T3, T5, T30, T38, T56, T57, T111, cvi_8 Try.underlying3 Try.underlying5, cv8_i Try.underlying5 Try.underlying3, K0_1, K0_2, K0_4, K0_5, O0_0, O0_1, O0_2, K1_1, K1_2, K1_4, K1_5, K1_6, K1_7, K1_8, O1_0, O1_1, O1_2]; done) | simp (maxDischargeDepth := 9) only [RA, Nat.reduceEqDiff, Nat.reduceLT, Nat.reduceLeDiff, Nat.reduceAdd, Nat.reduceSub, Nat.reduceMul, Nat.reduceDiv, Nat.reduceMod, Nat.reducePow, Nat.reduceBEq, Nat.reduceGT, reduceIte, j10, T1, T3, T5, T30, T38, T56, T57, T111, cvi_8 Try.underlying3 Try.underlying5, cv8_i Try.underlying5 Try.underlying3, K0_1, K0_2, K0_4, K0_5, O0_0, O0_1, O0_2, K1_1, K1_2, K1_4, K1_5, K1_6, K1_7, K1_8, O1_0, O1_1, O1_2] | simp (disch := first | assumption | omega) only [RV, j10, T1, T3, T5, T30, T38, T56, T57, T111, cvi_8 Try.underlying3 Try.underlying5, cv8_i Try.underlying5 Try.underlying3, K0_1, K0_2, K0_4, K0_5, O0_0, O0_1, O0_2, K1_1, K1_2, K1_4, K1_5, K1_6, K1_7, K1_8, O1_0, O1_1, O1_2])) <;> rfl)))
          | (apply R_cond
             · (simp only [RE, Nat.reduceEqDiff, Nat.reduceLT, Nat.reduceLeDiff, Nat.reduceBEq, reduceIte] <;> rfl))
          | (apply R_grd
             · (simp only [yieldedA, RY, Nat.reduceEqDiff, reduceIte] <;> rfl)))
        refine ⟨rfl, by first | rfl | simp only [List.map_cons, List.map_nil, RH, Nat.reduceAdd, Nat.reduceEqDiff, reduceIte, w0, w1, w2, T1, T3, T5, T30, T38, T56, T57, T111, cvi_8 Try.underlying3 Try.underlying5, cv8_i Try.underlying5 Try.underlying3, K0_1, K0_2, K0_4, K0_5, O0_0, O0_1, O0_2, K1_1, K1_2, K1_4, K1_5, K1_6, K1_7, K1_8, O1_0, O1_1, O1_2], by first | rfl | simp only [List.map_cons, List.map_nil, RH, Nat.reduceAdd, Nat.reduceEqDiff, reduceIte, w0, w1, w2, T1, T3, T5, T30, T38, T56, T57, T111, cvi_8 Try.underlying3 Try.underlying5, cv8_i Try.underlying5 Try.underlying3, K0_1, K0_2, K0_4, K0_5, O0_0, O0_1, O0_2, K1_1, K1_2, K1_4, K1_5, K1_6, K1_7, K1_8, O1_0, O1_1, O1_2], by first | (simp only [RH, w0, w1, w2, T1, T3, T5, T30, T38, T56, T57, T111, cvi_8 Try.underlying3 Try.underlying5, cv8_i Try.underlying5 Try.underlying3, K0_1, K0_2, K0_4, K0_5, O0_0, O0_1, O0_2, K1_1, K1_2, K1_4, K1_5, K1_6, K1_7, K1_8, O1_0, O1_1, O1_2]; done) | ((try simp only [RH, w0, w1, w2, T1, T3, T5, T30, T38, T56, T57, T111, cvi_8 Try.underlying3 Try.underlying5, cv8_i Try.underlying5 Try.underlying3, K0_1, K0_2, K0_4, K0_5, O0_0, O0_1, O0_2, K1_1, K1_2, K1_4, K1_5, K1_6, K1_7, K1_8, O1_0, O1_1, O1_2]); omega), ?_⟩
        exact ⟨by (try simp only [List.map_cons, List.map_nil, RH, Nat.reduceAdd, Nat.reduceEqDiff, reduceIte, ev_tmp, ev_const, lit_iv, lit_w8, lit_w32, lit_w64, envOf0, envOf1, envOf2, envOf3, envOf4, envOf5, T1, T3, T5, T30, T38, T56, T57, T111, cvi_8 Try.underlying3 Try.underlying5, cv8_i Try.underlying5 Try.underlying3, K0_1, K0_2, K0_4, K0_5, O0_0, O0_1, O0_2, K1_1, K1_2, K1_4, K1_5, K1_6, K1_7, K1_8, O1_0, O1_1, O1_2]), by (try simp only [List.map_cons, List.map_nil, RH, Nat.reduceAdd, Nat.reduceEqDiff, reduceIte, ev_tmp, ev_const, lit_iv, lit_w8, lit_w32, lit_w64, envOf0, envOf1, envOf2, envOf3, envOf4, envOf5, T1, T3, T5, T30, T38, T56, T57, T111, cvi_8 Try.underlying3 Try.underlying5, cv8_i Try.underlying5 Try.underlying3, K0_1, K0_2, K0_4, K0_5, O0_0, O0_1, O0_2, K1_1, K1_2, K1_4, K1_5, K1_6, K1_7, K1_8, O1_0, O1_1, O1_2]); exact own4, F4⟩
    · intro e3 h3 hK hO hN ⟨j10, own3, F3⟩
      simp only [List.map_cons, List.map_nil, List.cons.injEq, and_true, RH, Nat.reduceAdd, Nat.reduceEqDiff, reduceIte, envOf0, envOf1, envOf2, envOf3, envOf4, envOf5, m1, m2, m4, m5, m6, m7, m8, O0_0, O0_1, O0_2, K0_1, K0_2, K0_4, K0_5, O0_0, O0_1, O0_2] at hK
      obtain ⟨K1_1, K1_2, K1_4, K1_5, K1_6, K1_7, K1_8⟩ := hK
      simp only [List.map_cons, List.map_nil, List.cons.injEq, and_true, RH, Nat.reduceAdd, Nat.reduceEqDiff, reduceIte, envOf0, envOf1, envOf2, envOf3, envOf4, envOf5, m1, m2, m4, m5, m6, m7, m8, O0_0, O0_1, O0_2, K0_1, K0_2, K0_4, K0_5, O0_0, O0_1, O0_2] at hO
      obtain ⟨O1_0, O1_1, O1_2⟩ := hO
      try simp only [RH] at hN
      have n3 := F3.1
      have hxl := xrow_length ac bl 17
      have hM : ∀ x ∈ xrow ac bl 17, x ≤ 1073741824 := by
        unfold xrow
        refine rows_le fun i => ?_
        have h1 := hga i
        have h2 : oneD bl i ≤ 255 := by
          unfold oneD
          have := (bl.getD i 0#8).isLt
          split
          · omega
          · split <;> omega
        omega
      have hx2 : leV (xrow ac bl 17) = leV ac + leN (bl ++ [1#8]) := by unfold xrow; exact hxV
      have hcv := carryL_V (xrow ac bl 17) 0
      have hcb := carryL_lt (xrow ac bl 17) 0
      have hcl2 := carryL_length hM (c := 0) (by omega)
      rw [Nat.add_zero, hx2] at hcv
      repeat (first
        | refine R_seq ?_ | refine R_region ?_ | refine R_nil ?_ | refine Q_seq ?_ | refine Q_norm ?_ | refine Q_seqr ?_ | refine Q_seqx ?_ | refine Q_bl ?_ | refine Q_blr ?_ | refine Q_blx ?_ | refine Q_blo rfl ?_ | refine R_block ?_ | refine R_skip ?_ | refine R_exit ?_ | refine R_ret ?_ | refine I_true ?_ | refine I_false ?_ | refine N_exit ?_ | refine N_ret ?_
        | ((first | apply R_op | apply R_op0)
           · (first | (simp (maxDischargeDepth := 9) only [RA, Nat.reduceEqDiff, Nat.reduceLT, Nat.reduceLeDiff, Nat.reduceAdd, Nat.reduceSub, Nat.reduceMul, Nat.reduceDiv, Nat.reduceMod, Nat.reducePow, Nat.reduceBEq, Nat.reduceGT, reduceIte, j10, T1, T3, T5, T30, T38, T56, T57, T111, cvi_8 Try.underlying3 Try.underlying5, cv8_i Try.underlying5 Try.underlying3, K0_1, K0_2, K0_4, K0_5, O0_0, O0_1, O0_2, K1_1, K1_2, K1_4, K1_5, K1_6, K1_7, K1_8, O1_0, O1_1, O1_2] <;> rfl) | ((repeat (first | (simp (maxDischargeDepth := 9) only [RA, Nat.reduceEqDiff, Nat.reduceLT, Nat.reduceLeDiff, Nat.reduceAdd, Nat.reduceSub, Nat.reduceMul, Nat.reduceDiv, Nat.reduceMod, Nat.reducePow, Nat.reduceBEq, Nat.reduceGT, reduceIte, j10, T1, T3, T5, T30, T38, T56, T57, T111, cvi_8 Try.underlying3 Try.underlying5, cv8_i Try.underlying5 Try.underlying3, K0_1, K0_2, K0_4, K0_5, O0_0, O0_1, O0_2, K1_1, K1_2, K1_4, K1_5, K1_6, K1_7, K1_8, O1_0, O1_1, O1_2]; done) | simp (maxDischargeDepth := 9) only [RA, Nat.reduceEqDiff, Nat.reduceLT, Nat.reduceLeDiff, Nat.reduceAdd, Nat.reduceSub, Nat.reduceMul, Nat.reduceDiv, Nat.reduceMod, Nat.reducePow, Nat.reduceBEq, Nat.reduceGT, reduceIte, j10, T1, T3, T5, T30, T38, T56, T57, T111, cvi_8 Try.underlying3 Try.underlying5, cv8_i Try.underlying5 Try.underlying3, K0_1, K0_2, K0_4, K0_5, O0_0, O0_1, O0_2, K1_1, K1_2, K1_4, K1_5, K1_6, K1_7, K1_8, O1_0, O1_1, O1_2] | simp (disch := first | assumption | omega) only [RV, j10, T1, T3, T5, T30, T38, T56, T57, T111, cvi_8 Try.underlying3 Try.underlying5, cv8_i Try.underlying5 Try.underlying3, K0_1, K0_2, K0_4, K0_5, O0_0, O0_1, O0_2, K1_1, K1_2, K1_4, K1_5, K1_6, K1_7, K1_8, O1_0, O1_1, O1_2])) <;> rfl)))
        | (apply R_cond
           · (simp only [RE, Nat.reduceEqDiff, Nat.reduceLT, Nat.reduceLeDiff, Nat.reduceBEq, reduceIte] <;> rfl))
        | (apply R_grd
           · (simp only [yieldedA, RY, Nat.reduceEqDiff, reduceIte] <;> rfl)))
      refine R_fn ?_ (carry105 (q + 1) h3 (e3 9) (xrow ac bl 17) own3.sl hM (by omega)) ?_
      · rfl
      intro v4 h4 ⟨own4, F4⟩
      generalize carryL (xrow ac bl 17) 0 = x at own4 hcv hcb hcl2
      rw [hxl] at hcl2
      have n4 := F4.1
      repeat (first
        | refine R_seq ?_ | refine R_region ?_ | refine R_nil ?_ | refine Q_seq ?_ | refine Q_norm ?_ | refine Q_seqr ?_ | refine Q_seqx ?_ | refine Q_bl ?_ | refine Q_blr ?_ | refine Q_blx ?_ | refine Q_blo rfl ?_ | refine R_block ?_ | refine R_skip ?_ | refine R_exit ?_ | refine R_ret ?_ | refine I_true ?_ | refine I_false ?_ | refine N_exit ?_ | refine N_ret ?_
        | ((first | apply R_op | apply R_op0)
           · (first | (simp (maxDischargeDepth := 9) only [RA, Nat.reduceEqDiff, Nat.reduceLT, Nat.reduceLeDiff, Nat.reduceAdd, Nat.reduceSub, Nat.reduceMul, Nat.reduceDiv, Nat.reduceMod, Nat.reducePow, Nat.reduceBEq, Nat.reduceGT, reduceIte, S111len own4.sl, T1, T3, T5, T30, T38, T56, T57, T111, cvi_8 Try.underlying3 Try.underlying5, cv8_i Try.underlying5 Try.underlying3, K0_1, K0_2, K0_4, K0_5, O0_0, O0_1, O0_2, K1_1, K1_2, K1_4, K1_5, K1_6, K1_7, K1_8, O1_0, O1_1, O1_2] <;> rfl) | ((repeat (first | (simp (maxDischargeDepth := 9) only [RA, Nat.reduceEqDiff, Nat.reduceLT, Nat.reduceLeDiff, Nat.reduceAdd, Nat.reduceSub, Nat.reduceMul, Nat.reduceDiv, Nat.reduceMod, Nat.reducePow, Nat.reduceBEq, Nat.reduceGT, reduceIte, S111len own4.sl, T1, T3, T5, T30, T38, T56, T57, T111, cvi_8 Try.underlying3 Try.underlying5, cv8_i Try.underlying5 Try.underlying3, K0_1, K0_2, K0_4, K0_5, O0_0, O0_1, O0_2, K1_1, K1_2, K1_4, K1_5, K1_6, K1_7, K1_8, O1_0, O1_1, O1_2]; done) | simp (maxDischargeDepth := 9) only [RA, Nat.reduceEqDiff, Nat.reduceLT, Nat.reduceLeDiff, Nat.reduceAdd, Nat.reduceSub, Nat.reduceMul, Nat.reduceDiv, Nat.reduceMod, Nat.reducePow, Nat.reduceBEq, Nat.reduceGT, reduceIte, S111len own4.sl, T1, T3, T5, T30, T38, T56, T57, T111, cvi_8 Try.underlying3 Try.underlying5, cv8_i Try.underlying5 Try.underlying3, K0_1, K0_2, K0_4, K0_5, O0_0, O0_1, O0_2, K1_1, K1_2, K1_4, K1_5, K1_6, K1_7, K1_8, O1_0, O1_1, O1_2] | simp (disch := first | assumption | omega) only [RV, S111len own4.sl, T1, T3, T5, T30, T38, T56, T57, T111, cvi_8 Try.underlying3 Try.underlying5, cv8_i Try.underlying5 Try.underlying3, K0_1, K0_2, K0_4, K0_5, O0_0, O0_1, O0_2, K1_1, K1_2, K1_4, K1_5, K1_6, K1_7, K1_8, O1_0, O1_1, O1_2])) <;> rfl)))
        | (apply R_cond
           · (simp only [RE, Nat.reduceEqDiff, Nat.reduceLT, Nat.reduceLeDiff, Nat.reduceBEq, reduceIte] <;> rfl))
        | (apply R_grd
           · (simp only [yieldedA, RY, Nat.reduceEqDiff, reduceIte] <;> rfl)))
      refine R_mkI E111 (n := x.length + 16) (m := x.length + 16) ?_ ?_ (Nat.le_refl _) (by have : Try.t3.bytes = 8 := rfl; rw [this]; omega) (by omega) ?_
      · first | rfl | (first | rw [ev_tmp] | rw [ev_const] | skip) <;> simp only [upd_apply, Nat.reduceEqDiff, if_true, if_false, reduceIte, lit_iv, lit_w8, K0_1, K0_2, K0_4, K0_5, O0_0, O0_1, O0_2, K1_1, K1_2, K1_4, K1_5, K1_6, K1_7, K1_8, O1_0, O1_1, O1_2]
      · first | rfl | (first | rw [ev_tmp] | rw [ev_const] | skip) <;> simp only [upd_apply, Nat.reduceEqDiff, if_true, if_false, reduceIte, lit_iv, lit_w8, K0_1, K0_2, K0_4, K0_5, O0_0, O0_1, O0_2, K1_1, K1_2, K1_4, K1_5, K1_6, K1_7, K1_8, O1_0, O1_1, O1_2]
      intro v5 h5 own5 F5 _
      have n5 := F5.1
      have own45 : OwI h3.nx h5 v4 x := own4.keep n5 (fun r hr => F5.2 r (own4.rows r hr).2)
      have G5 : Fr h2.nx h2 h5 := F3.trans ((F4.trans (F5.le n4)).le n3)
      have w0 := G5.2 h.nx (by omega)
      rw [O0_0] at w0
      have w1 := G5.2 (h.nx + 1) (by omega)
      rw [O0_1] at w1
      have w2 := G5.2 (h.nx + 2) (by omega)
      rw [O0_2] at w2
      have hga2 : ∀ i, x.getD i 0 ≤ 255 := fun i => getD_le (fun y hy' => by have := hcb y hy'; omega) i
      repeat (first
        | refine R_seq ?_ | refine R_region ?_ | refine R_nil ?_ | refine Q_seq ?_ | refine Q_norm ?_ | refine Q_seqr ?_ | refine Q_seqx ?_ | refine Q_bl ?_ | refine Q_blr ?_ | refine Q_blx ?_ | refine Q_blo rfl ?_ | refine R_block ?_ | refine R_skip ?_ | refine R_exit ?_ | refine R_ret ?_ | refine I_true ?_ | refine I_false ?_ | refine N_exit ?_ | refine N_ret ?_
        | ((first | apply R_op | apply R_op0)
           · (first | (simp (maxDischargeDepth := 9) only [RA, Nat.reduceEqDiff, Nat.reduceLT, Nat.reduceLeDiff, Nat.reduceAdd, Nat.reduceSub, Nat.reduceMul, Nat.reduceDiv, Nat.reduceMod, Nat.reducePow, Nat.reduceBEq, Nat.reduceGT, reduceIte, T1, T3, T5, T30, T38, T56, T57, T111, cvi_8 Try.underlying3 Try.underlying5, cv8_i Try.underlying5 Try.underlying3, K0_1, K0_2, K0_4, K0_5, O0_0, O0_1, O0_2, K1_1, K1_2, K1_4, K1_5, K1_6, K1_7, K1_8, O1_0, O1_1, O1_2] <;> rfl) | ((repeat (first | (simp (maxDischargeDepth := 9) only [RA, Nat.reduceEqDiff, Nat.reduceLT, Nat.reduceLeDiff, Nat.reduceAdd, Nat.reduceSub, Nat.reduceMul, Nat.reduceDiv, Nat.reduceMod, Nat.reducePow, Nat.reduceBEq, Nat.reduceGT, reduceIte, T1, T3, T5, T30, T38, T56, T57, T111, cvi_8 Try.underlying3 Try.underlying5, cv8_i Try.underlying5 Try.underlying3, K0_1, K0_2, K0_4, K0_5, O0_0, O0_1, O0_2, K1_1, K1_2, K1_4, K1_5, K1_6, K1_7, K1_8, O1_0, O1_1, O1_2]; done) | simp (maxDischargeDepth := 9) only [RA, Nat.reduceEqDiff, Nat.reduceLT, Nat.reduceLeDiff, Nat.reduceAdd, Nat.reduceSub, Nat.reduceMul, Nat.reduceDiv, Nat.reduceMod, Nat.reducePow, Nat.reduceBEq, Nat.reduceGT, reduceIte, T1, T3, T5, T30, T38, T56, T57, T111, cvi_8 Try.underlying3 Try.underlying5, cv8_i Try.underlying5 Try.underlying3, K0_1, K0_2, K0_4, K0_5, O0_0, O0_1, O0_2, K1_1, K1_2, K1_4, K1_5, K1_6, K1_7, K1_8, O1_0, O1_1, O1_2] | simp (disch := first | assumption | omega) only [RV, T1, T3, T5, T30, T38, T56, T57, T111, cvi_8 Try.underlying3 Try.underlying5, cv8_i Try.underlying5 Try.underlying3, K0_1, K0_2, K0_4, K0_5, O0_0, O0_1, O0_2, K1_1, K1_2, K1_4, K1_5, K1_6, K1_7, K1_8, O1_0, O1_1, O1_2])) <;> rfl)))
        | (apply R_cond
           · (simp only [RE, Nat.reduceEqDiff, Nat.reduceLT, Nat.reduceLeDiff, Nat.reduceBEq, reduceIte] <;> rfl))
        | (apply R_grd
           · (simp only [yieldedA, RY, Nat.reduceEqDiff, reduceIte] <;> rfl)))
      refine W_loopK [1, 2, 4, 5, 7, 9, 12] [h.nx, h.nx + 1, h.nx + 2] (fun i e6 h6 => e6 13 = iv i ∧ Fr h4.nx h5 h6 ∧ ∃ p, OwI h4.nx h6 (e6 12) p ∧ p.length = x.length + 16 ∧ leV p = leV (x.take i) * leN (clampB k) ∧ ∀ y ∈ p, y ≤ i * 16 * 65025) x.length (by omega) ?_ ?_ ?_
      · refine ⟨by (try simp only [List.map_cons, List.map_nil, RH, Nat.reduceAdd, Nat.reduceEqDiff, reduceIte, ev_tmp, ev_const, lit_iv, lit_w8, lit_w32, lit_w64, envOf0, envOf1, envOf2, envOf3, envOf4, envOf5, T1, T3, T5, T30, T38, T56, T57, T111, cvi_8 Try.underlying3 Try.underlying5, cv8_i Try.underlying5 Try.underlying3, K0_1, K0_2, K0_4, K0_5, O0_0, O0_1, O0_2, K1_1, K1_2, K1_4, K1_5, K1_6, K1_7, K1_8, O1_0, O1_1, O1_2]), .refl _ _, List.replicate (x.length + 16) 0, by (try simp only [List.map_cons, List.map_nil, RH, Nat.reduceAdd, Nat.reduceEqDiff, reduceIte, ev_tmp, ev_const, lit_iv, lit_w8, lit_w32, lit_w64, envOf0, envOf1, envOf2, envOf3, envOf4, envOf5, T1, T3, T5, T30, T38, T56, T57, T111, cvi_8 Try.underlying3 Try.underlying5, cv8_i Try.underlying5 Try.underlying3, K0_1, K0_2, K0_4, K0_5, O0_0, O0_1, O0_2, K1_1, K1_2, K1_4, K1_5, K1_6, K1_7, K1_8, O1_0, O1_1, O1_2]); exact own5, by simp, ?_, fun y hy' => by have := List.eq_of_mem_replicate hy'; omega⟩
        rw [leV_zeros, List.take_zero, show leV [] = 0 by unfold leV; rfl, Nat.zero_mul]
      · intro i hi e6 h6 hK hO hN ⟨j13, F6, p, own6, hpl, hpV, hpb⟩
        simp only [List.map_cons, List.map_nil, List.cons.injEq, and_true, RH, Nat.reduceAdd, Nat.reduceEqDiff, reduceIte, envOf0, envOf1, envOf2, envOf3, envOf4, envOf5, K1_1, K1_2, K1_4, K1_5, K1_7, w0, w1, w2, K0_1, K0_2, K0_4, K0_5, O0_0, O0_1, O0_2, K1_1, K1_2, K1_4, K1_5, K1_6, K1_7, K1_8, O1_0, O1_1, O1_2] at hK
        obtain ⟨K2_1, K2_2, K2_4, K2_5, K2_7, K2_9, K2_12⟩ := hK
        simp only [List.map_cons, List.map_nil, List.cons.injEq, and_true, RH, Nat.reduceAdd, Nat.reduceEqDiff, reduceIte, envOf0, envOf1, envOf2, envOf3, envOf4, envOf5, K1_1, K1_2, K1_4, K1_5, K1_7, w0, w1, w2, K0_1, K0_2, K0_4, K0_5, O0_0, O0_1, O0_2, K1_1, K1_2, K1_4, K1_5, K1_6, K1_7, K1_8, O1_0, O1_1, O1_2] at hO
        obtain ⟨O2_0, O2_1, O2_2⟩ := hO
        try simp only [RH] at hN
        have gx := hga2 i
        have own46 : OwI h3.nx h6 v4 x := own45.keep F6.1 (fun r hr => F6.2 r (own4.rows r hr).2)
        have n6 := F6.1
        rw [K2_12] at own6
        repeat (first
          | refine R_seq ?_ | refine R_region ?_ | refine R_nil ?_ | refine Q_seq ?_ | refine Q_norm ?_ | refine Q_seqr ?_ | refine Q_seqx ?_ | refine Q_bl ?_ | refine Q_blr ?_ | refine Q_blx ?_ | refine Q_blo rfl ?_ | refine R_block ?_ | refine R_skip ?_ | refine R_exit ?_ | refine R_ret ?_ | refine I_true ?_ | refine I_false ?_ | refine N_exit ?_ | refine N_ret ?_
          | ((first | apply R_op | apply R_op0)
             · (first | (simp (maxDischargeDepth := 9) only [RA, Nat.reduceEqDiff, Nat.reduceLT, Nat.reduceLeDiff, Nat.reduceAdd, Nat.reduceSub, Nat.reduceMul, Nat.reduceDiv, Nat.reduceMod, Nat.reducePow, Nat.reduceBEq, Nat.reduceGT, reduceIte, j13, S111len own46.sl, hi, T1, T3, T5, T30, T38, T56, T57, T111, cvi_8 Try.underlying3 Try.underlying5, cv8_i Try.underlying5 Try.underlying3, K0_1, K0_2, K0_4, K0_5, O0_0, O0_1, O0_2, K1_1, K1_2, K1_4, K1_5, K1_6, K1_7, K1_8, O1_0, O1_1, O1_2, K2_1, K2_2, K2_4, K2_5, K2_7, K2_9, K2_12, O2_0, O2_1, O2_2] <;> rfl) | ((repeat (first | (simp (maxDischargeDepth := 9) only [RA, Nat.reduceEqDiff, Nat.reduceLT, Nat.reduceLeDiff, Nat.reduceAdd, Nat.reduceSub, Nat.reduceMul, Nat.reduceDiv, Nat.reduceMod, Nat.reducePow, Nat.reduceBEq, Nat.reduceGT, reduceIte, j13, S111len own46.sl, hi, T1, T3, T5, T30, T38, T56, T57, T111, cvi_8 Try.underlying3 Try.underlying5, cv8_i Try.underlying5 Try.underlying3, K0_1, K0_2, K0_4, K0_5, O0_0, O0_1, O0_2, K1_1, K1_2, K1_4, K1_5, K1_6, K1_7, K1_8, O1_0, O1_1, O1_2, K2_1, K2_2, K2_4, K2_5, K2_7, K2_9, K2_12, O2_0, O2_1, O2_2]; done) | simp (maxDischargeDepth := 9) only [RA, Nat.reduceEqDiff, Nat.reduceLT, Nat.reduceLeDiff, Nat.reduceAdd, Nat.reduceSub, Nat.reduceMul, Nat.reduceDiv, Nat.reduceMod, Nat.reducePow, Nat.reduceBEq, Nat.reduceGT, reduceIte, j13, S111len own46.sl, hi, T1, T3, T5, T30, T38, T56, T57, T111, cvi_8 Try.underlying3 Try.underlying5, cv8_i Try.underlying5 Try.underlying3, K0_1, K0_2, K0_4, K0_5, O0_0, O0_1, O0_2, K1_1, K1_2, K1_4, K1_5, K1_6, K1_7, K1_8, O1_0, O1_1, O1_2, K2_1, K2_2, K2_4, K2_5, K2_7, K2_9, K2_12, O2_0, O2_1, O2_2] | simp (disch := first | assumption | omega) only [RV, j13, S111len own46.sl, hi, T1, T3, T5, T30, T38, T56, T57, T111, cvi_8 Try.underlying3 Try.underlying5, cv8_i Try.underlying5 Try.underlying3, K0_1, K0_2, K0_4, K0_5, O0_0, O0_1, O0_2, K1_1, K1_2, K1_4, K1_5, K1_6, K1_7, K1_8, O1_0, O1_1, O1_2, K2_1, K2_2, K2_4, K2_5, K2_7, K2_9, K2_12, O2_0, O2_1, O2_2])) <;> rfl)))
          | (apply R_cond
             · (simp only [RE, Nat.reduceEqDiff, Nat.reduceLT, Nat.reduceLeDiff, Nat.reduceBEq, reduceIte] <;> rfl))
          | (apply R_grd
             · (simp only [yieldedA, RY, Nat.reduceEqDiff, reduceIte] <;> rfl)))
        refine W_loopK [1, 2, 4, 5, 7, 9, 12, 13] [h.nx, h.nx + 1, h.nx + 2] (fun m e7 h7 => e7 14 = iv m ∧ Fr h4.nx h5 h7 ∧ ∃ p, OwI h4.nx h7 v5 p ∧ p.length = x.length + 16 ∧ leV p = leV (x.take i) * leN (clampB k) + 256 ^ i * (x.getD i 0 * leN ((clampB k).take m)) ∧ ∀ y ∈ p, y ≤ (i * 16 + m) * 65025) 16 (by omega) ?_ ?_ ?_
        · refine ⟨by (try simp only [List.map_cons, List.map_nil, RH, Nat.reduceAdd, Nat.reduceEqDiff, reduceIte, ev_tmp, ev_const, lit_iv, lit_w8, lit_w32, lit_w64, envOf0, envOf1, envOf2, envOf3, envOf4, envOf5, T1, T3, T5, T30, T38, T56, T57, T111, cvi_8 Try.underlying3 Try.underlying5, cv8_i Try.underlying5 Try.underlying3, K0_1, K0_2, K0_4, K0_5, O0_0, O0_1, O0_2, K1_1, K1_2, K1_4, K1_5, K1_6, K1_7, K1_8, O1_0, O1_1, O1_2, K2_1, K2_2, K2_4, K2_5, K2_7, K2_9, K2_12, O2_0, O2_1, O2_2]), F6, p, own6, hpl, ?_, fun y hy' => by have := hpb y hy'; omega⟩
          rw [hpV, List.take_zero, show leN [] = 0 by unfold leN; rfl, Nat.mul_zero, Nat.mul_zero, Nat.add_zero]
        · intro m hm e7 h7 hK hO hN ⟨j14, F7, p7, own7, hpl7, hpV7, hpb7⟩
          simp only [List.map_cons, List.map_nil, List.cons.injEq, and_true, RH, Nat.reduceAdd, Nat.reduceEqDiff, reduceIte, envOf0, envOf1, envOf2, envOf3, envOf4, envOf5, j13, K0_1, K0_2, K0_4, K0_5, O0_0, O0_1, O0_2, K1_1, K1_2, K1_4, K1_5, K1_6, K1_7, K1_8, O1_0, O1_1, O1_2, K2_1, K2_2, K2_4, K2_5, K2_7, K2_9, K2_12, O2_0, O2_1, O2_2] at hK
          obtain ⟨K3_1, K3_2, K3_4, K3_5, K3_7, K3_9, K3_12, K3_13⟩ := hK
          simp only [List.map_cons, List.map_nil, List.cons.injEq, and_true, RH, Nat.reduceAdd, Nat.reduceEqDiff, reduceIte, envOf0, envOf1, envOf2, envOf3, envOf4, envOf5, j13, K0_1, K0_2, K0_4, K0_5, O0_0, O0_1, O0_2, K1_1, K1_2, K1_4, K1_5, K1_6, K1_7, K1_8, O1_0, O1_1, O1_2, K2_1, K2_2, K2_4, K2_5, K2_7, K2_9, K2_12, O2_0, O2_1, O2_2] at hO
          obtain ⟨O3_0, O3_1, O3_2⟩ := hO
          try simp only [RH] at hN
          have own47 : OwI h3.nx h7 v4 x := own45.keep F7.1 (fun r hr => F7.2 r (own4.rows r hr).2)
          have n7 := F7.1
          have himl : i + m < p7.length := by omega
          have hm16 : m < 16 := hm
          have hstep := conv_step (r := clampB k) himl (by omega) hpV7
          have gp : p7.getD (i + m) 0 ≤ (i * 16 + m) * 65025 := getD_le hpb7 _
          have gr := ((clampB k).getD m 0#8).isLt
          have gmul : x.getD i 0 * ((clampB k).getD m 0#8).toNat ≤ 255 * 255 := Nat.mul_le_mul gx (by omega)
          have hiap := S111ia own7.sl himl
          have hldp := iv_ld Try.underlying3 inf3 own7.sl fr_refl himl
          have hiax := S111ia own47.sl hi
          have hldx := iv_ld Try.underlying3 inf3 own47.sl fr_refl hi
          repeat (first
            | refine R_seq ?_ | refine R_region ?_ | refine R_nil ?_ | refine Q_seq ?_ | refine Q_norm ?_ | refine Q_seqr ?_ | refine Q_seqx ?_ | refine Q_bl ?_ | refine Q_blr ?_ | refine Q_blx ?_ | refine Q_blo rfl ?_ | refine R_block ?_ | refine R_skip ?_ | refine R_exit ?_ | refine R_ret ?_ | refine I_true ?_ | refine I_false ?_ | refine N_exit ?_ | refine N_ret ?_
            | (refine R_draw (by kernel_rfl) ?_)
            | ((first | apply R_op | apply R_op0)
               · (first | (simp (maxDischargeDepth := 9) only [RA, Nat.reduceEqDiff, Nat.reduceLT, Nat.reduceLeDiff, Nat.reduceAdd, Nat.reduceSub, Nat.reduceMul, Nat.reduceDiv, Nat.reduceMod, Nat.reducePow, Nat.reduceBEq, Nat.reduceGT, reduceIte, j14, hm, hiap, hldp, hiax, hldx, hcl, T1, T3, T5, T30, T38, T56, T57, T111, cvi_8 Try.underlying3 Try.underlying5, cv8_i Try.underlying5 Try.underlying3, K0_1, K0_2, K0_4, K0_5, O0_0, O0_1, O0_2, K1_1, K1_2, K1_4, K1_5, K1_6, K1_7, K1_8, O1_0, O1_1, O1_2, K2_1, K2_2, K2_4, K2_5, K2_7, K2_9, K2_12, O2_0, O2_1, O2_2, K3_1, K3_2, K3_4, K3_5, K3_7, K3_9, K3_12, K3_13, O3_0, O3_1, O3_2] <;> rfl) | ((repeat (first | (simp (maxDischargeDepth := 9) only [RA, Nat.reduceEqDiff, Nat.reduceLT, Nat.reduceLeDiff, Nat.reduceAdd, Nat.reduceSub, Nat.reduceMul, Nat.reduceDiv, Nat.reduceMod, Nat.reducePow, Nat.reduceBEq, Nat.reduceGT, reduceIte, j14, hm, hiap, hldp, hiax, hldx, hcl, T1, T3, T5, T30, T38, T56, T57, T111, cvi_8 Try.underlying3 Try.underlying5, cv8_i Try.underlying5 Try.underlying3, K0_1, K0_2, K0_4, K0_5, O0_0, O0_1, O0_2, K1_1, K1_2, K1_4, K1_5, K1_6, K1_7, K1_8, O1_0, O1_1, O1_2, K2_1, K2_2, K2_4, K2_5, K2_7, K2_9, K2_12, O2_0, O2_1, O2_2, K3_1, K3_2, K3_4, K3_5, K3_7, K3_9, K3_12, K3_13, O3_0, O3_1, O3_2]; done) | simp (maxDischargeDepth := 9) only [RA, Nat.reduceEqDiff, Nat.reduceLT, Nat.reduceLeDiff, Nat.reduceAdd, Nat.reduceSub, Nat.reduceMul, Nat.reduceDiv, Nat.reduceMod, Nat.reducePow, Nat.reduceBEq, Nat.reduceGT, reduceIte, j14, hm, hiap, hldp, hiax, hldx, hcl, T1, T3, T5, T30, T38, T56, T57, T111, cvi_8 Try.underlying3 Try.underlying5, cv8_i Try.underlying5 Try.underlying3, K0_1, K0_2, K0_4, K0_5, O0_0, O0_1, O0_2, K1_1, K1_2, K1_4, K1_5, K1_6, K1_7, K1_8, O1_0, O1_1, O1_2, K2_1, K2_2, K2_4, K2_5, K2_7, K2_9, K2_12, O2_0, O2_1, O2_2, K3_1, K3_2, K3_4, K3_5, K3_7, K3_9, K3_12, K3_13, O3_0, O3_1, O3_2] | simp (disch := first | assumption | omega) only [RV, j14, hm, hiap, hldp, hiax, hldx, hcl, T1, T3, T5, T30, T38, T56, T57, T111, cvi_8 Try.underlying3 Try.underlying5, cv8_i Try.underlying5 Try.underlying3, K0_1, K0_2, K0_4, K0_5, O0_0, O0_1, O0_2, K1_1, K1_2, K1_4, K1_5, K1_6, K1_7, K1_8, O1_0, O1_1, O1_2, K2_1, K2_2, K2_4, K2_5, K2_7, K2_9, K2_12, O2_0, O2_1, O2_2, K3_1, K3_2, K3_4, K3_5, K3_7, K3_9, K3_12, K3_13, O3_0, O3_1, O3_2])) <;> rfl)))
            | (apply R_cond
               · (simp only [RE, Nat.reduceEqDiff, Nat.reduceLT, Nat.reduceLeDiff, Nat.reduceBEq, reduceIte] <;> rfl))
            | (apply R_grd
               · (simp only [yieldedA, RY, Nat.reduceEqDiff, reduceIte] <;> rfl)))
          refine R_stI (v := v5) (x := p7.getD (i + m) 0 + x.getD i 0 * ((clampB k).getD m 0#8).toNat) (i := i + m) inf3 rfl ?_ ?_ own7 himl ?_
          · first | rfl | (first | rw [ev_tmp] | rw [ev_const] | skip) <;> simp only [upd_apply, Nat.reduceEqDiff, if_true, if_false, reduceIte, lit_iv, lit_w8, K0_1, K0_2, K0_4, K0_5, O0_0, O0_1, O0_2, K1_1, K1_2, K1_4, K1_5, K1_6, K1_7, K1_8, O1_0, O1_1, O1_2, K2_1, K2_2, K2_4, K2_5, K2_7, K2_9, K2_12, O2_0, O2_1, O2_2, K3_1, K3_2, K3_4, K3_5, K3_7, K3_9, K3_12, K3_13, O3_0, O3_1, O3_2]
          · first | rfl | (first | rw [ev_tmp] | rw [ev_const] | skip) <;> simp only [upd_apply, Nat.reduceEqDiff, if_true, if_false, reduceIte, lit_iv, lit_w8, K0_1, K0_2, K0_4, K0_5, O0_0, O0_1, O0_2, K1_1, K1_2, K1_4, K1_5, K1_6, K1_7, K1_8, O1_0, O1_1, O1_2, K2_1, K2_2, K2_4, K2_5, K2_7, K2_9, K2_12, O2_0, O2_1, O2_2, K3_1, K3_2, K3_4, K3_5, K3_7, K3_9, K3_12, K3_13, O3_0, O3_1, O3_2]
          intro h8 own8 wt8 n8
          have F8 := F7.trans (wt8.owFr (by omega) own7)
          have hr5 : ∀ r ∈ rowsOfV v5, h.nx + 2 < r := fun r hr => by have := (own7.rows r hr).1; omega
          have z0 : h8.obj h.nx = some (.row .rw 1 (b8 k)) := by rw [wt8.rest _ (by omega) (fun hm => by have := hr5 _ hm; omega)]; exact O3_0
          have z1 : h8.obj (h.nx + 1) = some (.row .rw 1 (b8 (List.replicate 16 0#8))) := by rw [wt8.rest _ (by omega) (fun hm => by have := hr5 _ hm; omega)]; exact O3_1
          have z2 : h8.obj (h.nx + 2) = some (.row .rw 1 (b8 (clampB k))) := by rw [wt8.rest _ (by omega) (fun hm => by have := hr5 _ hm; omega)]; exact O3_2
          repeat (first
            | refine R_seq ?_ | refine R_region ?_ | refine R_nil ?_ | refine Q_seq ?_ | refine Q_norm ?_ | refine Q_seqr ?_ | refine Q_seqx ?_ | refine Q_bl ?_ | refine Q_blr ?_ | refine Q_blx ?_ | refine Q_blo rfl ?_ | refine R_block ?_ | refine R_skip ?_ | refine R_exit ?_ | refine R_ret ?_ | refine I_true ?_ | refine I_false ?_ | refine N_exit ?_ | refine N_ret ?_
            | (refine R_draw (by kernel_rfl) ?_)
            | ((first | apply R_op | apply R_op0)
               · (first | (simp (maxDischargeDepth := 9) only [RA, Nat.reduceEqDiff, Nat.reduceLT, Nat.reduceLeDiff, Nat.reduceAdd, Nat.reduceSub, Nat.reduceMul, Nat.reduceDiv, Nat.reduceMod, Nat.reducePow, Nat.reduceBEq, Nat.reduceGT, reduceIte, j14, T1, T3, T5, T30, T38, T56, T57, T111, cvi_8 Try.underlying3 Try.underlying5, cv8_i Try.underlying5 Try.underlying3, K0_1, K0_2, K0_4, K0_5, O0_0, O0_1, O0_2, K1_1, K1_2, K1_4, K1_5, K1_6, K1_7, K1_8, O1_0, O1_1, O1_2, K2_1, K2_2, K2_4, K2_5, K2_7, K2_9, K2_12, O2_0, O2_1, O2_2, K3_1, K3_2, K3_4, K3_5, K3_7, K3_9, K3_12, K3_13, O3_0, O3_1, O3_2] <;> rfl) | ((repeat (first | (simp (maxDischargeDepth := 9) only [RA, Nat.reduceEqDiff, Nat.reduceLT, Nat.reduceLeDiff, Nat.reduceAdd, Nat.reduceSub, Nat.reduceMul, Nat.reduceDiv, Nat.reduceMod, Nat.reducePow, Nat.reduceBEq, Nat.reduceGT, reduceIte, j14, T1, T3, T5, T30, T38, T56, T57, T111, cvi_8 Try.underlying3 Try.underlying5, cv8_i Try.underlying5 Try.underlying3, K0_1, K0_2, K0_4, K0_5, O0_0, O0_1, O0_2, K1_1, K1_2, K1_4, K1_5, K1_6, K1_7, K1_8, O1_0, O1_1, O1_2, K2_1, K2_2, K2_4, K2_5, K2_7, K2_9, K2_12, O2_0, O2_1, O2_2, K3_1, K3_2, K3_4, K3_5, K3_7, K3_9, K3_12, K3_13, O3_0, O3_1, O3_2]; done) | simp (maxDischargeDepth := 9) only [RA, Nat.reduceEqDiff, Nat.reduceLT, Nat.reduceLeDiff, Nat.reduceAdd, Nat.reduceSub, Nat.reduceMul, Nat.reduceDiv, Nat.reduceMod, Nat.reducePow, Nat.reduceBEq, Nat.reduceGT, reduceIte, j14, T1, T3, T5, T30, T38, T56, T57, T111, cvi_8 Try.underlying3 Try.underlying5, cv8_i Try.underlying5 Try.underlying3, K0_1, K0_2, K0_4, K0_5, O0_0, O0_1, O0_2, K1_1, K1_2, K1_4, K1_5, K1_6, K1_7, K1_8, O1_0, O1_1, O1_2, K2_1, K2_2, K2_4, K2_5, K2_7, K2_9, K2_12, O2_0, O2_1, O2_2, K3_1, K3_2, K3_4, K3_5, K3_7, K3_9, K3_12, K3_13, O3_0, O3_1, O3_2] | simp (disch := first | assumption | omega) only [RV, j14, T1, T3, T5, T30, T38, T56, T57, T111, cvi_8 Try.underlying3 Try.underlying5, cv8_i Try.underlying5 Try.underlying3, K0_1, K0_2, K0_4, K0_5, O0_0, O0_1, O0_2, K1_1, K1_2, K1_4, K1_5, K1_6, K1_7, K1_8, O1_0, O1_1, O1_2, K2_1, K2_2, K2_4, K2_5, K2_7, K2_9, K2_12, O2_0, O2_1, O2_2, K3_1, K3_2, K3_4, K3_5, K3_7, K3_9, K3_12, K3_13, O3_0, O3_1, O3_2])) <;> rfl)))
            | (apply R_cond
               · (simp only [RE, Nat.reduceEqDiff, Nat.reduceLT, Nat.reduceLeDiff, Nat.reduceBEq, reduceIte] <;> rfl))
            | (apply R_grd
               · (simp only [yieldedA, RY, Nat.reduceEqDiff, reduceIte] <;> rfl)))
          refine ⟨rfl, by first | rfl | simp only [List.map_cons, List.map_nil, RH, Nat.reduceAdd, Nat.reduceEqDiff, reduceIte, z0, z1, z2, T1, T3, T5, T30, T38, T56, T57, T111, cvi_8 Try.underlying3 Try.underlying5, cv8_i Try.underlying5 Try.underlying3, K0_1, K0_2, K0_4, K0_5, O0_0, O0_1, O0_2, K1_1, K1_2, K1_4, K1_5, K1_6, K1_7, K1_8, O1_0, O1_1, O1_2, K2_1, K2_2, K2_4, K2_5, K2_7, K2_9, K2_12, O2_0, O2_1, O2_2, K3_1, K3_2, K3_4, K3_5, K3_7, K3_9, K3_12, K3_13, O3_0, O3_1, O3_2], by first | rfl | simp only [List.map_cons, List.map_nil, RH, Nat.reduceAdd, Nat.reduceEqDiff, reduceIte, z0, z1, z2, T1, T3, T5, T30, T38, T56, T57, T111, cvi_8 Try.underlying3 Try.underlying5, cv8_i Try.underlying5 Try.underlying3, K0_1, K0_2, K0_4, K0_5, O0_0, O0_1, O0_2, K1_1, K1_2, K1_4, K1_5, K1_6, K1_7, K1_8, O1_0, O1_1, O1_2, K2_1, K2_2, K2_4, K2_5, K2_7, K2_9, K2_12, O2_0, O2_1, O2_2, K3_1, K3_2, K3_4, K3_5, K3_7, K3_9, K3_12, K3_13, O3_0, O3_1, O3_2], by first | (simp only [RH, z0, z1, z2, T1, T3, T5, T30, T38, T56, T57, T111, cvi_8 Try.underlying3 Try.underlying5, cv8_i Try.underlying5 Try.underlying3, K0_1, K0_2, K0_4, K0_5, O0_0, O0_1, O0_2, K1_1, K1_2, K1_4, K1_5, K1_6, K1_7, K1_8, O1_0, O1_1, O1_2, K2_1, K2_2, K2_4, K2_5, K2_7, K2_9, K2_12, O2_0, O2_1, O2_2, K3_1, K3_2, K3_4, K3_5, K3_7, K3_9, K3_12, K3_13, O3_0, O3_1, O3_2]; done) | ((try simp only [RH, z0, z1, z2, T1, T3, T5, T30, T38, T56, T57, T111, cvi_8 Try.underlying3 Try.underlying5, cv8_i Try.underlying5 Try.underlying3, K0_1, K0_2, K0_4, K0_5, O0_0, O0_1, O0_2, K1_1, K1_2, K1_4, K1_5, K1_6, K1_7, K1_8, O1_0, O1_1, O1_2, K2_1, K2_2, K2_4, K2_5, K2_7, K2_9, K2_12, O2_0, O2_1, O2_2, K3_1, K3_2, K3_4, K3_5, K3_7, K3_9, K3_12, K3_13, O3_0, O3_1, O3_2]); omega), ?_⟩
          have hle1 : (i * 16 + m) * 65025 ≤ (i * 16 + (m + 1)) * 65025 := Nat.mul_le_mul_right _ (by omega)
          have hle2 : p7.getD (i + m) 0 + x.getD i 0 * ((clampB k).getD m 0#8).toNat ≤ (i * 16 + (m + 1)) * 65025 := by
            rw [← Nat.add_assoc, Nat.add_mul _ 1, Nat.one_mul]
            exact Nat.add_le_add gp gmul
          have hall : ∀ y ∈ p7.set (i + m) (p7.getD (i + m) 0 + x.getD i 0 * ((clampB k).getD m 0#8).toNat), y ≤ (i * 16 + (m + 1)) * 65025 := mem_set_le (fun y hy' => Nat.le_trans (hpb7 y hy') hle1) hle2
          exact ⟨by (try simp only [List.map_cons, List.map_nil, RH, Nat.reduceAdd, Nat.reduceEqDiff, reduceIte, ev_tmp, ev_const, lit_iv, lit_w8, lit_w32, lit_w64, envOf0, envOf1, envOf2, envOf3, envOf4, envOf5, T1, T3, T5, T30, T38, T56, T57, T111, cvi_8 Try.underlying3 Try.underlying5, cv8_i Try.underlying5 Try.underlying3, K0_1, K0_2, K0_4, K0_5, O0_0, O0_1, O0_2, K1_1, K1_2, K1_4, K1_5, K1_6, K1_7, K1_8, O1_0, O1_1, O1_2, K2_1, K2_2, K2_4, K2_5, K2_7, K2_9, K2_12, O2_0, O2_1, O2_2, K3_1, K3_2, K3_4, K3_5, K3_7, K3_9, K3_12, K3_13, O3_0, O3_1, O3_2]), F8, _, own8, by rw [List.length_set]; exact hpl7, hstep, hall⟩
        · intro e7 h7 hK hO hN ⟨j14, F7, p7, own7, hpl7, hpV7, hpb7⟩
          simp only [List.map_cons, List.map_nil, List.cons.injEq, and_true, RH, Nat.reduceAdd, Nat.reduceEqDiff, reduceIte, envOf0, envOf1, envOf2, envOf3, envOf4, envOf5, j13, K0_1, K0_2, K0_4, K0_5, O0_0, O0_1, O0_2, K1_1, K1_2, K1_4, K1_5, K1_6, K1_7, K1_8, O1_0, O1_1, O1_2, K2_1, K2_2, K2_4, K2_5, K2_7, K2_9, K2_12, O2_0, O2_1, O2_2] at hK
          obtain ⟨K3_1, K3_2, K3_4, K3_5, K3_7, K3_9, K3_12, K3_13⟩ := hK
          simp only [List.map_cons, List.map_nil, List.cons.injEq, and_true, RH, Nat.reduceAdd, Nat.reduceEqDiff, reduceIte, envOf0, envOf1, envOf2, envOf3, envOf4, envOf5, j13, K0_1, K0_2, K0_4, K0_5, O0_0, O0_1, O0_2, K1_1, K1_2, K1_4, K1_5, K1_6, K1_7, K1_8, O1_0, O1_1, O1_2, K2_1, K2_2, K2_4, K2_5, K2_7, K2_9, K2_12, O2_0, O2_1, O2_2] at hO
          obtain ⟨O3_0, O3_1, O3_2⟩ := hO
          try simp only [RH] at hN
          rw [List.take_of_length_le (show (clampB k).length ≤ 16 by omega), conv_next hi] at hpV7
          repeat (first
            | refine R_seq ?_ | refine R_region ?_ | refine R_nil ?_ | refine Q_seq ?_ | refine Q_norm ?_ | refine Q_seqr ?_ | refine Q_seqx ?_ | refine Q_bl ?_ | refine Q_blr ?_ | refine Q_blx ?_ | refine Q_blo rfl ?_ | refine R_block ?_ | refine R_skip ?_ | refine R_exit ?_ | refine R_ret ?_ | refine I_true ?_ | refine I_false ?_ | refine N_exit ?_ | refine N_ret ?_
            | ((first | apply R_op | apply R_op0)
               · (first | (simp (maxDischargeDepth := 9) only [RA, Nat.reduceEqDiff, Nat.reduceLT, Nat.reduceLeDiff, Nat.reduceAdd, Nat.reduceSub, Nat.reduceMul, Nat.reduceDiv, Nat.reduceMod, Nat.reducePow, Nat.reduceBEq, Nat.reduceGT, reduceIte, j14, T1, T3, T5, T30, T38, T56, T57, T111, cvi_8 Try.underlying3 Try.underlying5, cv8_i Try.underlying5 Try.underlying3, K0_1, K0_2, K0_4, K0_5, O0_0, O0_1, O0_2, K1_1, K1_2, K1_4, K1_5, K1_6, K1_7, K1_8, O1_0, O1_1, O1_2, K2_1, K2_2, K2_4, K2_5, K2_7, K2_9, K2_12, O2_0, O2_1, O2_2, K3_1, K3_2, K3_4, K3_5, K3_7, K3_9, K3_12, K3_13, O3_0, O3_1, O3_2] <;> rfl) | ((repeat (first | (simp (maxDischargeDepth := 9) only [RA, Nat.reduceEqDiff, Nat.reduceLT, Nat.reduceLeDiff, Nat.reduceAdd, Nat.reduceSub, Nat.reduceMul, Nat.reduceDiv, Nat.reduceMod, Nat.reducePow, Nat.reduceBEq, Nat.reduceGT, reduceIte, j14, T1, T3, T5, T30, T38, T56, T57, T111, cvi_8 Try.underlying3 Try.underlying5, cv8_i Try.underlying5 Try.underlying3, K0_1, K0_2, K0_4, K0_5, O0_0, O0_1, O0_2, K1_1, K1_2, K1_4, K1_5, K1_6, K1_7, K1_8, O1_0, O1_1, O1_2, K2_1, K2_2, K2_4, K2_5, K2_7, K2_9, K2_12, O2_0, O2_1, O2_2, K3_1, K3_2, K3_4, K3_5, K3_7, K3_9, K3_12, K3_13, O3_0, O3_1, O3_2]; done) | simp (maxDischargeDepth := 9) only [RA, Nat.reduceEqDiff, Nat.reduceLT, Nat.reduceLeDiff, Nat.reduceAdd, Nat.reduceSub, Nat.reduceMul, Nat.reduceDiv, Nat.reduceMod, Nat.reducePow, Nat.reduceBEq, Nat.reduceGT, reduceIte, j14, T1, T3, T5, T30, T38, T56, T57, T111, cvi_8 Try.underlying3 Try.underlying5, cv8_i Try.underlying5 Try.underlying3, K0_1, K0_2, K0_4, K0_5, O0_0, O0_1, O0_2, K1_1, K1_2, K1_4, K1_5, K1_6, K1_7, K1_8, O1_0, O1_1, O1_2, K2_1, K2_2, K2_4, K2_5, K2_7, K2_9, K2_12, O2_0, O2_1, O2_2, K3_1, K3_2, K3_4, K3_5, K3_7, K3_9, K3_12, K3_13, O3_0, O3_1, O3_2] | simp (disch := first | assumption | omega) only [RV, j14, T1, T3, T5, T30, T38, T56, T57, T111, cvi_8 Try.underlying3 Try.underlying5, cv8_i Try.underlying5 Try.underlying3, K0_1, K0_2, K0_4, K0_5, O0_0, O0_1, O0_2, K1_1, K1_2, K1_4, K1_5, K1_6, K1_7, K1_8, O1_0, O1_1, O1_2, K2_1, K2_2, K2_4, K2_5, K2_7, K2_9, K2_12, O2_0, O2_1, O2_2, K3_1, K3_2, K3_4, K3_5, K3_7, K3_9, K3_12, K3_13, O3_0, O3_1, O3_2])) <;> rfl)))
            | (apply R_cond
               · (simp only [RE, Nat.reduceEqDiff, Nat.reduceLT, Nat.reduceLeDiff, Nat.reduceBEq, reduceIte] <;> rfl))
            | (apply R_grd
               · (simp only [yieldedA, RY, Nat.reduceEqDiff, reduceIte] <;> rfl)))
          refine ⟨rfl, by first | rfl | simp only [List.map_cons, List.map_nil, RH, Nat.reduceAdd, Nat.reduceEqDiff, reduceIte, T1, T3, T5, T30, T38, T56, T57, T111, cvi_8 Try.underlying3 Try.underlying5, cv8_i Try.underlying5 Try.underlying3, K0_1, K0_2, K0_4, K0_5, O0_0, O0_1, O0_2, K1_1, K1_2, K1_4, K1_5, K1_6, K1_7, K1_8, O1_0, O1_1, O1_2, K2_1, K2_2, K2_4, K2_5, K2_7, K2_9, K2_12, O2_0, O2_1, O2_2, K3_1, K3_2, K3_4, K3_5, K3_7, K3_9, K3_12, K3_13, O3_0, O3_1, O3_2], by first | rfl | simp only [List.map_cons, List.map_nil, RH, Nat.reduceAdd, Nat.reduceEqDiff, reduceIte, T1, T3, T5, T30, T38, T56, T57, T111, cvi_8 Try.underlying3 Try.underlying5, cv8_i Try.underlying5 Try.underlying3, K0_1, K0_2, K0_4, K0_5, O0_0, O0_1, O0_2, K1_1, K1_2, K1_4, K1_5, K1_6, K1_7, K1_8, O1_0, O1_1, O1_2, K2_1, K2_2, K2_4, K2_5, K2_7, K2_9, K2_12, O2_0, O2_1, O2_2, K3_1, K3_2, K3_4, K3_5, K3_7, K3_9, K3_12, K3_13, O3_0, O3_1, O3_2], by first | (simp only [RH, T1, T3, T5, T30, T38, T56, T57, T111, cvi_8 Try.underlying3 Try.underlying5, cv8_i Try.underlying5 Try.underlying3, K0_1, K0_2, K0_4, K0_5, O0_0, O0_1, O0_2, K1_1, K1_2, K1_4, K1_5, K1_6, K1_7, K1_8, O1_0, O1_1, O1_2, K2_1, K2_2, K2_4, K2_5, K2_7, K2_9, K2_12, O2_0, O2_1, O2_2, K3_1, K3_2, K3_4, K3_5, K3_7, K3_9, K3_12, K3_13, O3_0, O3_1, O3_2]; done) | ((try simp only [RH, T1, T3, T5, T30, T38, T56, T57, T111, cvi_8 Try.underlying3 Try.underlying5, cv8_i Try.underlying5 Try.underlying3, K0_1, K0_2, K0_4, K0_5, O0_0, O0_1, O0_2, K1_1, K1_2, K1_4, K1_5, K1_6, K1_7, K1_8, O1_0, O1_1, O1_2, K2_1, K2_2, K2_4, K2_5, K2_7, K2_9, K2_12, O2_0, O2_1, O2_2, K3_1, K3_2, K3_4, K3_5, K3_7, K3_9, K3_12, K3_13, O3_0, O3_1, O3_2]); omega), ?_⟩
          have hle1 : (i * 16 + 16) * 65025 ≤ (i + 1) * 16 * 65025 := Nat.mul_le_mul_right _ (by omega)
          have hall : ∀ y ∈ p7, y ≤ (i + 1) * 16 * 65025 := fun y hy' => Nat.le_trans (hpb7 y hy') hle1
          exact ⟨by (try simp only [List.map_cons, List.map_nil, RH, Nat.reduceAdd, Nat.reduceEqDiff, reduceIte, ev_tmp, ev_const, lit_iv, lit_w8, lit_w32, lit_w64, envOf0, envOf1, envOf2, envOf3, envOf4, envOf5, T1, T3, T5, T30, T38, T56, T57, T111, cvi_8 Try.underlying3 Try.underlying5, cv8_i Try.underlying5 Try.underlying3, K0_1, K0_2, K0_4, K0_5, O0_0, O0_1, O0_2, K1_1, K1_2, K1_4, K1_5, K1_6, K1_7, K1_8, O1_0, O1_1, O1_2, K2_1, K2_2, K2_4, K2_5, K2_7, K2_9, K2_12, O2_0, O2_1, O2_2, K3_1, K3_2, K3_4, K3_5, K3_7, K3_9, K3_12, K3_13, O3_0, O3_1, O3_2]), F7, p7, by (try simp only [List.map_cons, List.map_nil, RH, Nat.reduceAdd, Nat.reduceEqDiff, reduceIte, ev_tmp, ev_const, lit_iv, lit_w8, lit_w32, lit_w64, envOf0, envOf1, envOf2, envOf3, envOf4, envOf5, T1, T3, T5, T30, T38, T56, T57, T111, cvi_8 Try.underlying3 Try.underlying5, cv8_i Try.underlying5 Try.underlying3, K0_1, K0_2, K0_4, K0_5, O0_0, O0_1, O0_2, K1_1, K1_2, K1_4, K1_5, K1_6, K1_7, K1_8, O1_0, O1_1, O1_2, K2_1, K2_2, K2_4, K2_5, K2_7, K2_9, K2_12, O2_0, O2_1, O2_2, K3_1, K3_2, K3_4, K3_5, K3_7, K3_9, K3_12, K3_13, O3_0, O3_1, O3_2]); exact own7, hpl7, hpV7, hall⟩
      · intro e6 h6 hK hO hN ⟨j13, F6, p, own6, hpl, hpV, hpb⟩
        simp only [List.map_cons, List.map_nil, List.cons.injEq, and_true, RH, Nat.reduceAdd, Nat.reduceEqDiff, reduceIte, envOf0, envOf1, envOf2, envOf3, envOf4, envOf5, K1_1, K1_2, K1_4, K1_5, K1_7, w0, w1, w2, K0_1, K0_2, K0_4, K0_5, O0_0, O0_1, O0_2, K1_1, K1_2, K1_4, K1_5, K1_6, K1_7, K1_8, O1_0, O1_1, O1_2] at hK
        obtain ⟨K2_1, K2_2, K2_4, K2_5, K2_7, K2_9, K2_12⟩ := hK
        simp only [List.map_cons, List.map_nil, List.cons.injEq, and_true, RH, Nat.reduceAdd, Nat.reduceEqDiff, reduceIte, envOf0, envOf1, envOf2, envOf3, envOf4, envOf5, K1_1, K1_2, K1_4, K1_5, K1_7, w0, w1, w2, K0_1, K0_2, K0_4, K0_5, O0_0, O0_1, O0_2, K1_1, K1_2, K1_4, K1_5, K1_6, K1_7, K1_8, O1_0, O1_1, O1_2] at hO
        obtain ⟨O2_0, O2_1, O2_2⟩ := hO
        try simp only [RH] at hN
        have own46 : OwI h3.nx h6 v4 x := own45.keep F6.1 (fun r hr => F6.2 r (own4.rows r hr).2)
        have n6 := F6.1
        have hnl : ¬ x.length < x.length := Nat.lt_irrefl _
        rw [K2_12] at own6
        rw [List.take_length, hcv] at hpV
        have hpM : ∀ y ∈ p, y ≤ 1073741824 := fun y hy' => by
          have h1 := hpb y hy'
          have h2 : x.length * 16 * 65025 ≤ 21 * 16 * 65025 := Nat.mul_le_mul_right _ (Nat.mul_le_mul_right _ (by omega))
          omega
        have hcv2 := carryL_V p 0
        have hcb2 := carryL_lt p 0
        have hcl3 := carryL_length hpM (c := 0) (by omega)
        rw [Nat.add_zero, hpV] at hcv2
        repeat (first
          | refine R_seq ?_ | refine R_region ?_ | refine R_nil ?_ | refine Q_seq ?_ | refine Q_norm ?_ | refine Q_seqr ?_ | refine Q_seqx ?_ | refine Q_bl ?_ | refine Q_blr ?_ | refine Q_blx ?_ | refine Q_blo rfl ?_ | refine R_block ?_ | refine R_skip ?_ | refine R_exit ?_ | refine R_ret ?_ | refine I_true ?_ | refine I_false ?_ | refine N_exit ?_ | refine N_ret ?_
          | ((first | apply R_op | apply R_op0)
             · (first | (simp (maxDischargeDepth := 9) only [RA, Nat.reduceEqDiff, Nat.reduceLT, Nat.reduceLeDiff, Nat.reduceAdd, Nat.reduceSub, Nat.reduceMul, Nat.reduceDiv, Nat.reduceMod, Nat.reducePow, Nat.reduceBEq, Nat.reduceGT, reduceIte, j13, S111len own46.sl, hnl, T1, T3, T5, T30, T38, T56, T57, T111, cvi_8 Try.underlying3 Try.underlying5, cv8_i Try.underlying5 Try.underlying3, K0_1, K0_2, K0_4, K0_5, O0_0, O0_1, O0_2, K1_1, K1_2, K1_4, K1_5, K1_6, K1_7, K1_8, O1_0, O1_1, O1_2, K2_1, K2_2, K2_4, K2_5, K2_7, K2_9, K2_12, O2_0, O2_1, O2_2] <;> rfl) | ((repeat (first | (simp (maxDischargeDepth := 9) only [RA, Nat.reduceEqDiff, Nat.reduceLT, Nat.reduceLeDiff, Nat.reduceAdd, Nat.reduceSub, Nat.reduceMul, Nat.reduceDiv, Nat.reduceMod, Nat.reducePow, Nat.reduceBEq, Nat.reduceGT, reduceIte, j13, S111len own46.sl, hnl, T1, T3, T5, T30, T38, T56, T57, T111, cvi_8 Try.underlying3 Try.underlying5, cv8_i Try.underlying5 Try.underlying3, K0_1, K0_2, K0_4, K0_5, O0_0, O0_1, O0_2, K1_1, K1_2, K1_4, K1_5, K1_6, K1_7, K1_8, O1_0, O1_1, O1_2, K2_1, K2_2, K2_4, K2_5, K2_7, K2_9, K2_12, O2_0, O2_1, O2_2]; done) | simp (maxDischargeDepth := 9) only [RA, Nat.reduceEqDiff, Nat.reduceLT, Nat.reduceLeDiff, Nat.reduceAdd, Nat.reduceSub, Nat.reduceMul, Nat.reduceDiv, Nat.reduceMod, Nat.reducePow, Nat.reduceBEq, Nat.reduceGT, reduceIte, j13, S111len own46.sl, hnl, T1, T3, T5, T30, T38, T56, T57, T111, cvi_8 Try.underlying3 Try.underlying5, cv8_i Try.underlying5 Try.underlying3, K0_1, K0_2, K0_4, K0_5, O0_0, O0_1, O0_2, K1_1, K1_2, K1_4, K1_5, K1_6, K1_7, K1_8, O1_0, O1_1, O1_2, K2_1, K2_2, K2_4, K2_5, K2_7, K2_9, K2_12, O2_0, O2_1, O2_2] | simp (disch := first | assumption | omega) only [RV, j13, S111len own46.sl, hnl, T1, T3, T5, T30, T38, T56, T57, T111, cvi_8 Try.underlying3 Try.underlying5, cv8_i Try.underlying5 Try.underlying3, K0_1, K0_2, K0_4, K0_5, O0_0, O0_1, O0_2, K1_1, K1_2, K1_4, K1_5, K1_6, K1_7, K1_8, O1_0, O1_1, O1_2, K2_1, K2_2, K2_4, K2_5, K2_7, K2_9, K2_12, O2_0, O2_1, O2_2])) <;> rfl)))
          | (apply R_cond
             · (simp only [RE, Nat.reduceEqDiff, Nat.reduceLT, Nat.reduceLeDiff, Nat.reduceBEq, reduceIte] <;> rfl))
          | (apply R_grd
             · (simp only [yieldedA, RY, Nat.reduceEqDiff, reduceIte] <;> rfl)))
        refine R_fn ?_ (carry105 (q + 1) h6 v5 p own6.sl hpM (by omega)) ?_
        · rfl
        intro v8 h8 ⟨own8, F8⟩
        have n8 := F8.1
        generalize carryL p 0 = pc at own8 hcv2 hcb2 hcl3
        repeat (first
          | refine R_seq ?_ | refine R_region ?_ | refine R_nil ?_ | refine Q_seq ?_ | refine Q_norm ?_ | refine Q_seqr ?_ | refine Q_seqx ?_ | refine Q_bl ?_ | refine Q_blr ?_ | refine Q_blx ?_ | refine Q_blo rfl ?_ | refine R_block ?_ | refine R_skip ?_ | refine R_exit ?_ | refine R_ret ?_ | refine I_true ?_ | refine I_false ?_ | refine N_exit ?_ | refine N_ret ?_
          | ((first | apply R_op | apply R_op0)
             · (first | (simp (maxDischargeDepth := 9) only [RA, Nat.reduceEqDiff, Nat.reduceLT, Nat.reduceLeDiff, Nat.reduceAdd, Nat.reduceSub, Nat.reduceMul, Nat.reduceDiv, Nat.reduceMod, Nat.reducePow, Nat.reduceBEq, Nat.reduceGT, reduceIte, T1, T3, T5, T30, T38, T56, T57, T111, cvi_8 Try.underlying3 Try.underlying5, cv8_i Try.underlying5 Try.underlying3, K0_1, K0_2, K0_4, K0_5, O0_0, O0_1, O0_2, K1_1, K1_2, K1_4, K1_5, K1_6, K1_7, K1_8, O1_0, O1_1, O1_2, K2_1, K2_2, K2_4, K2_5, K2_7, K2_9, K2_12, O2_0, O2_1, O2_2] <;> rfl) | ((repeat (first | (simp (maxDischargeDepth := 9) only [RA, Nat.reduceEqDiff, Nat.reduceLT, Nat.reduceLeDiff, Nat.reduceAdd, Nat.reduceSub, Nat.reduceMul, Nat.reduceDiv, Nat.reduceMod, Nat.reducePow, Nat.reduceBEq, Nat.reduceGT, reduceIte, T1, T3, T5, T30, T38, T56, T57, T111, cvi_8 Try.underlying3 Try.underlying5, cv8_i Try.underlying5 Try.underlying3, K0_1, K0_2, K0_4, K0_5, O0_0, O0_1, O0_2, K1_1, K1_2, K1_4, K1_5, K1_6, K1_7, K1_8, O1_0, O1_1, O1_2, K2_1, K2_2, K2_4, K2_5, K2_7, K2_9, K2_12, O2_0, O2_1, O2_2]; done) | simp (maxDischargeDepth := 9) only [RA, Nat.reduceEqDiff, Nat.reduceLT, Nat.reduceLeDiff, Nat.reduceAdd, Nat.reduceSub, Nat.reduceMul, Nat.reduceDiv, Nat.reduceMod, Nat.reducePow, Nat.reduceBEq, Nat.reduceGT, reduceIte, T1, T3, T5, T30, T38, T56, T57, T111, cvi_8 Try.underlying3 Try.underlying5, cv8_i Try.underlying5 Try.underlying3, K0_1, K0_2, K0_4, K0_5, O0_0, O0_1, O0_2, K1_1, K1_2, K1_4, K1_5, K1_6, K1_7, K1_8, O1_0, O1_1, O1_2, K2_1, K2_2, K2_4, K2_5, K2_7, K2_9, K2_12, O2_0, O2_1, O2_2] | simp (disch := first | assumption | omega) only [RV, T1, T3, T5, T30, T38, T56, T57, T111, cvi_8 Try.underlying3 Try.underlying5, cv8_i Try.underlying5 Try.underlying3, K0_1, K0_2, K0_4, K0_5, O0_0, O0_1, O0_2, K1_1, K1_2, K1_4, K1_5, K1_6, K1_7, K1_8, O1_0, O1_1, O1_2, K2_1, K2_2, K2_4, K2_5, K2_7, K2_9, K2_12, O2_0, O2_1, O2_2])) <;> rfl)))
          | (apply R_cond
             · (simp only [RE, Nat.reduceEqDiff, Nat.reduceLT, Nat.reduceLeDiff, Nat.reduceBEq, reduceIte] <;> rfl))
          | (apply R_grd
             · (simp only [yieldedA, RY, Nat.reduceEqDiff, reduceIte] <;> rfl)))
        refine R_fn ?_ (reduced106 q h8 v8 pc own8.sl hcb2 (by omega)) ?_
        · rfl
        intro v9 h9 ⟨⟨ac2, a9, hab2, hal2, hav2⟩, F9⟩
        have n9 := F9.1
        have F69 : Fr h6.nx h6 h9 := F8.trans (F9.le n8)
        have z0 := F69.2 h.nx (by omega)
        rw [O2_0] at z0
        have z1 := F69.2 (h.nx + 1) (by omega)
        rw [O2_1] at z1
        have z2 := F69.2 (h.nx + 2) (by omega)
        rw [O2_2] at z2
        repeat (first
          | refine R_seq ?_ | refine R_region ?_ | refine R_nil ?_ | refine Q_seq ?_ | refine Q_norm ?_ | refine Q_seqr ?_ | refine Q_seqx ?_ | refine Q_bl ?_ | refine Q_blr ?_ | refine Q_blx ?_ | refine Q_blo rfl ?_ | refine R_block ?_ | refine R_skip ?_ | refine R_exit ?_ | refine R_ret ?_ | refine I_true ?_ | refine I_false ?_ | refine N_exit ?_ | refine N_ret ?_
          | ((first | apply R_op | apply R_op0)
             · (first | (simp (maxDischargeDepth := 9) only [RA, Nat.reduceEqDiff, Nat.reduceLT, Nat.reduceLeDiff, Nat.reduceAdd, Nat.reduceSub, Nat.reduceMul, Nat.reduceDiv, Nat.reduceMod, Nat.reducePow, Nat.reduceBEq, Nat.reduceGT, reduceIte, K2_7, T1, T3, T5, T30, T38, T56, T57, T111, cvi_8 Try.underlying3 Try.underlying5, cv8_i Try.underlying5 Try.underlying3, K0_1, K0_2, K0_4, K0_5, O0_0, O0_1, O0_2, K1_1, K1_2, K1_4, K1_5, K1_6, K1_7, K1_8, O1_0, O1_1, O1_2, K2_1, K2_2, K2_4, K2_5, K2_7, K2_9, K2_12, O2_0, O2_1, O2_2] <;> rfl) | ((repeat (first | (simp (maxDischargeDepth := 9) only [RA, Nat.reduceEqDiff, Nat.reduceLT, Nat.reduceLeDiff, Nat.reduceAdd, Nat.reduceSub, Nat.reduceMul, Nat.reduceDiv, Nat.reduceMod, Nat.reducePow, Nat.reduceBEq, Nat.reduceGT, reduceIte, K2_7, T1, T3, T5, T30, T38, T56, T57, T111, cvi_8 Try.underlying3 Try.underlying5, cv8_i Try.underlying5 Try.underlying3, K0_1, K0_2, K0_4, K0_5, O0_0, O0_1, O0_2, K1_1, K1_2, K1_4, K1_5, K1_6, K1_7, K1_8, O1_0, O1_1, O1_2, K2_1, K2_2, K2_4, K2_5, K2_7, K2_9, K2_12, O2_0, O2_1, O2_2]; done) | simp (maxDischargeDepth := 9) only [RA, Nat.reduceEqDiff, Nat.reduceLT, Nat.reduceLeDiff, Nat.reduceAdd, Nat.reduceSub, Nat.reduceMul, Nat.reduceDiv, Nat.reduceMod, Nat.reducePow, Nat.reduceBEq, Nat.reduceGT, reduceIte, K2_7, T1, T3, T5, T30, T38, T56, T57, T111, cvi_8 Try.underlying3 Try.underlying5, cv8_i Try.underlying5 Try.underlying3, K0_1, K0_2, K0_4, K0_5, O0_0, O0_1, O0_2, K1_1, K1_2, K1_4, K1_5, K1_6, K1_7, K1_8, O1_0, O1_1, O1_2, K2_1, K2_2, K2_4, K2_5, K2_7, K2_9, K2_12, O2_0, O2_1, O2_2] | simp (disch := first | assumption | omega) only [RV, K2_7, T1, T3, T5, T30, T38, T56, T57, T111, cvi_8 Try.underlying3 Try.underlying5, cv8_i Try.underlying5 Try.underlying3, K0_1, K0_2, K0_4, K0_5, O0_0, O0_1, O0_2, K1_1, K1_2, K1_4, K1_5, K1_6, K1_7, K1_8, O1_0, O1_1, O1_2, K2_1, K2_2, K2_4, K2_5, K2_7, K2_9, K2_12, O2_0, O2_1, O2_2])) <;> rfl)))
          | (apply R_cond
             · (simp only [RE, Nat.reduceEqDiff, Nat.reduceLT, Nat.reduceLeDiff, Nat.reduceBEq, reduceIte] <;> rfl))
          | (apply R_grd
             · (simp only [yieldedA, RY, Nat.reduceEqDiff, reduceIte] <;> rfl)))
        refine ⟨rfl, by first | rfl | simp only [List.map_cons, List.map_nil, RH, Nat.reduceAdd, Nat.reduceEqDiff, reduceIte, K2_1, K2_2, K2_4, K2_5, z0, z1, z2, T1, T3, T5, T30, T38, T56, T57, T111, cvi_8 Try.underlying3 Try.underlying5, cv8_i Try.underlying5 Try.underlying3, K0_1, K0_2, K0_4, K0_5, O0_0, O0_1, O0_2, K1_1, K1_2, K1_4, K1_5, K1_6, K1_7, K1_8, O1_0, O1_1, O1_2, K2_1, K2_2, K2_4, K2_5, K2_7, K2_9, K2_12, O2_0, O2_1, O2_2], by first | rfl | simp only [List.map_cons, List.map_nil, RH, Nat.reduceAdd, Nat.reduceEqDiff, reduceIte, K2_1, K2_2, K2_4, K2_5, z0, z1, z2, T1, T3, T5, T30, T38, T56, T57, T111, cvi_8 Try.underlying3 Try.underlying5, cv8_i Try.underlying5 Try.underlying3, K0_1, K0_2, K0_4, K0_5, O0_0, O0_1, O0_2, K1_1, K1_2, K1_4, K1_5, K1_6, K1_7, K1_8, O1_0, O1_1, O1_2, K2_1, K2_2, K2_4, K2_5, K2_7, K2_9, K2_12, O2_0, O2_1, O2_2], by first | (simp only [RH, K2_1, K2_2, K2_4, K2_5, z0, z1, z2, T1, T3, T5, T30, T38, T56, T57, T111, cvi_8 Try.underlying3 Try.underlying5, cv8_i Try.underlying5 Try.underlying3, K0_1, K0_2, K0_4, K0_5, O0_0, O0_1, O0_2, K1_1, K1_2, K1_4, K1_5, K1_6, K1_7, K1_8, O1_0, O1_1, O1_2, K2_1, K2_2, K2_4, K2_5, K2_7, K2_9, K2_12, O2_0, O2_1, O2_2]; done) | ((try simp only [RH, K2_1, K2_2, K2_4, K2_5, z0, z1, z2, T1, T3, T5, T30, T38, T56, T57, T111, cvi_8 Try.underlying3 Try.underlying5, cv8_i Try.underlying5 Try.underlying3, K0_1, K0_2, K0_4, K0_5, O0_0, O0_1, O0_2, K1_1, K1_2, K1_4, K1_5, K1_6, K1_7, K1_8, O1_0, O1_1, O1_2, K2_1, K2_2, K2_4, K2_5, K2_7, K2_9, K2_12, O2_0, O2_1, O2_2]); omega), ?_⟩
        refine ⟨by (try simp only [List.map_cons, List.map_nil, RH, Nat.reduceAdd, Nat.reduceEqDiff, reduceIte, ev_tmp, ev_const, lit_iv, lit_w8, lit_w32, lit_w64, envOf0, envOf1, envOf2, envOf3, envOf4, envOf5, T1, T3, T5, T30, T38, T56, T57, T111, cvi_8 Try.underlying3 Try.underlying5, cv8_i Try.underlying5 Try.underlying3, K0_1, K0_2, K0_4, K0_5, O0_0, O0_1, O0_2, K1_1, K1_2, K1_4, K1_5, K1_6, K1_7, K1_8, O1_0, O1_1, O1_2, K2_1, K2_2, K2_4, K2_5, K2_7, K2_9, K2_12, O2_0, O2_1, O2_2]); rfl, F1.trans ((G5.trans ((F6.trans (F69.le (by omega))).le (by omega))).le n1), ac2, by (try simp only [List.map_cons, List.map_nil, RH, Nat.reduceAdd, Nat.reduceEqDiff, reduceIte, ev_tmp, ev_const, lit_iv, lit_w8, lit_w32, lit_w64, envOf0, envOf1, envOf2, envOf3, envOf4, envOf5, T1, T3, T5, T30, T38, T56, T57, T111, cvi_8 Try.underlying3 Try.underlying5, cv8_i Try.underlying5 Try.underlying3, K0_1, K0_2, K0_4, K0_5, O0_0, O0_1, O0_2, K1_1, K1_2, K1_4, K1_5, K1_6, K1_7, K1_8, O1_0, O1_1, O1_2, K2_1, K2_2, K2_4, K2_5, K2_7, K2_9, K2_12, O2_0, O2_1, O2_2]); exact a9, hab2, hal2, ?_⟩
        rw [hav2, hcv2, hav, ← hbk]
        exact (polyA_succ _ _ _).symm
  · intro e1 h1 hK hO hN ⟨j7, F1, ac, a1, hab, hal, hav⟩
    simp only [List.map_cons, List.map_nil, List.cons.injEq, and_true, RH, Nat.reduceAdd, Nat.reduceEqDiff, reduceIte, envOf0, envOf1, envOf2, envOf3, envOf4, envOf5, o0, o1, o2] at hK
    obtain ⟨K0_1, K0_2, K0_4, K0_5⟩ := hK
    simp only [List.map_cons, List.map_nil, List.cons.injEq, and_true, RH, Nat.reduceAdd, Nat.reduceEqDiff, reduceIte, envOf0, envOf1, envOf2, envOf3, envOf4, envOf5, o0, o1, o2] at hO
    obtain ⟨O0_0, O0_1, O0_2⟩ := hO
    try simp only [RH] at hN
    have b1 := bH.fr0 F1
    have n1 := F1.1
    have hjl : ¬ 16 * polyN b < b.length := by unfold polyN; omega
    have hlt := polyA_lt (leN (clampB k)) b (polyN b)
    rw [← hav] at hlt
    have hga : ∀ i, ac.getD i 0 ≤ 255 := fun i => getD_le (fun y hy' => by have := hab y hy'; omega) i
    have hsV := srow_V hab hlt hk
    repeat (first
      | refine R_seq ?_ | refine R_region ?_ | refine R_nil ?_ | refine Q_seq ?_ | refine Q_norm ?_ | refine Q_seqr ?_ | refine Q_seqx ?_ | refine Q_bl ?_ | refine Q_blr ?_ | refine Q_blx ?_ | refine Q_blo rfl ?_ | refine R_block ?_ | refine R_skip ?_ | refine R_exit ?_ | refine R_ret ?_ | refine I_true ?_ | refine I_false ?_ | refine N_exit ?_ | refine N_ret ?_
      | ((first | apply R_op | apply R_op0)
         · (first | (simp (maxDischargeDepth := 9) only [RA, Nat.reduceEqDiff, Nat.reduceLT, Nat.reduceLeDiff, Nat.reduceAdd, Nat.reduceSub, Nat.reduceMul, Nat.reduceDiv, Nat.reduceMod, Nat.reducePow, Nat.reduceBEq, Nat.reduceGT, reduceIte, j7, S38len b1, hjl, T1, T3, T5, T30, T38, T56, T57, T111, cvi_8 Try.underlying3 Try.underlying5, cv8_i Try.underlying5 Try.underlying3, K0_1, K0_2, K0_4, K0_5, O0_0, O0_1, O0_2] <;> rfl) | ((repeat (first | (simp (maxDischargeDepth := 9) only [RA, Nat.reduceEqDiff, Nat.reduceLT, Nat.reduceLeDiff, Nat.reduceAdd, Nat.reduceSub, Nat.reduceMul, Nat.reduceDiv, Nat.reduceMod, Nat.reducePow, Nat.reduceBEq, Nat.reduceGT, reduceIte, j7, S38len b1, hjl, T1, T3, T5, T30, T38, T56, T57, T111, cvi_8 Try.underlying3 Try.underlying5, cv8_i Try.underlying5 Try.underlying3, K0_1, K0_2, K0_4, K0_5, O0_0, O0_1, O0_2]; done) | simp (maxDischargeDepth := 9) only [RA, Nat.reduceEqDiff, Nat.reduceLT, Nat.reduceLeDiff, Nat.reduceAdd, Nat.reduceSub, Nat.reduceMul, Nat.reduceDiv, Nat.reduceMod, Nat.reducePow, Nat.reduceBEq, Nat.reduceGT, reduceIte, j7, S38len b1, hjl, T1, T3, T5, T30, T38, T56, T57, T111, cvi_8 Try.underlying3 Try.underlying5, cv8_i Try.underlying5 Try.underlying3, K0_1, K0_2, K0_4, K0_5, O0_0, O0_1, O0_2] | simp (disch := first | assumption | omega) only [RV, j7, S38len b1, hjl, T1, T3, T5, T30, T38, T56, T57, T111, cvi_8 Try.underlying3 Try.underlying5, cv8_i Try.underlying5 Try.underlying3, K0_1, K0_2, K0_4, K0_5, O0_0, O0_1, O0_2])) <;> rfl)))
      | (apply R_cond
         · (simp only [RE, Nat.reduceEqDiff, Nat.reduceLT, Nat.reduceLeDiff, Nat.reduceBEq, reduceIte] <;> rfl))
      | (apply R_grd
         · (simp only [yieldedA, RY, Nat.reduceEqDiff, reduceIte] <;> rfl)))
    refine W_loopK [2, 4, 6] [h.nx, h.nx + 1] (fun i e3 h3 => e3 16 = iv i ∧ OwI h1.nx h3 (e3 15) (srow ac k i) ∧ Fr h1.nx h1 h3) 17 (by omega) ?_ ?_ ?_
    · exact ⟨by (try simp only [List.map_cons, List.map_nil, RH, Nat.reduceAdd, Nat.reduceEqDiff, reduceIte, ev_tmp, ev_const, lit_iv, lit_w8, lit_w32, lit_w64, envOf0, envOf1, envOf2, envOf3, envOf4, envOf5, T1, T3, T5, T30, T38, T56, T57, T111, cvi_8 Try.underlying3 Try.underlying5, cv8_i Try.underlying5 Try.underlying3, K0_1, K0_2, K0_4, K0_5, O0_0, O0_1, O0_2]), by (try simp only [List.map_cons, List.map_nil, RH, Nat.reduceAdd, Nat.reduceEqDiff, reduceIte, ev_tmp, ev_const, lit_iv, lit_w8, lit_w32, lit_w64, envOf0, envOf1, envOf2, envOf3, envOf4, envOf5, T1, T3, T5, T30, T38, T56, T57, T111, cvi_8 Try.underlying3 Try.underlying5, cv8_i Try.underlying5 Try.underlying3, K0_1, K0_2, K0_4, K0_5, O0_0, O0_1, O0_2]); unfold srow; exact .nil, .refl _ _⟩
    · intro i hi e3 h3 hK hO hN ⟨j16, own3, F3⟩
      simp only [List.map_cons, List.map_nil, List.cons.injEq, and_true, RH, Nat.reduceAdd, Nat.reduceEqDiff, reduceIte, envOf0, envOf1, envOf2, envOf3, envOf4, envOf5, K0_2, K0_4, O0_0, O0_1, K0_1, K0_2, K0_4, K0_5, O0_0, O0_1, O0_2] at hK
      obtain ⟨K4_2, K4_4, K4_6⟩ := hK
      simp only [List.map_cons, List.map_nil, List.cons.injEq, and_true, RH, Nat.reduceAdd, Nat.reduceEqDiff, reduceIte, envOf0, envOf1, envOf2, envOf3, envOf4, envOf5, K0_2, K0_4, O0_0, O0_1, K0_1, K0_2, K0_4, K0_5, O0_0, O0_1, O0_2] at hO
      obtain ⟨O4_0, O4_1⟩ := hO
      try simp only [RH] at hN
      have a3 := a1.fr0 F3
      have hat := at104 (q + 1) h3 (e1 6) ac i a3
      have n3 := F3.1
      have gi := hga i
      have hsc := srow_succ ac k i
      have hxl := srow_length ac k i
      by_cases h16 : i < 16
      · rw [if_pos h16] at hsc
        have hi32 : 16 + i < 32 := by omega
        have hx := (k.getD (16 + i) 0#8).isLt
        repeat (first
          | refine R_seq ?_ | refine R_region ?_ | refine R_nil ?_ | refine Q_seq ?_ | refine Q_norm ?_ | refine Q_seqr ?_ | refine Q_seqx ?_ | refine Q_bl ?_ | refine Q_blr ?_ | refine Q_blx ?_ | refine Q_blo rfl ?_ | refine R_block ?_ | refine R_skip ?_ | refine R_exit ?_ | refine R_ret ?_ | refine I_true ?_ | refine I_false ?_ | refine N_exit ?_ | refine N_ret ?_
          | ((first | apply R_op | apply R_op0)
             · (first | (simp (maxDischargeDepth := 9) only [RA, Nat.reduceEqDiff, Nat.reduceLT, Nat.reduceLeDiff, Nat.reduceAdd, Nat.reduceSub, Nat.reduceMul, Nat.reduceDiv, Nat.reduceMod, Nat.reducePow, Nat.reduceBEq, Nat.reduceGT, reduceIte, j16, hi, hat, bs1_111, h16, hi32, hk, T1, T3, T5, T30, T38, T56, T57, T111, cvi_8 Try.underlying3 Try.underlying5, cv8_i Try.underlying5 Try.underlying3, K0_1, K0_2, K0_4, K0_5, O0_0, O0_1, O0_2, K4_2, K4_4, K4_6, O4_0, O4_1] <;> rfl) | ((repeat (first | (simp (maxDischargeDepth := 9) only [RA, Nat.reduceEqDiff, Nat.reduceLT, Nat.reduceLeDiff, Nat.reduceAdd, Nat.reduceSub, Nat.reduceMul, Nat.reduceDiv, Nat.reduceMod, Nat.reducePow, Nat.reduceBEq, Nat.reduceGT, reduceIte, j16, hi, hat, bs1_111, h16, hi32, hk, T1, T3, T5, T30, T38, T56, T57, T111, cvi_8 Try.underlying3 Try.underlying5, cv8_i Try.underlying5 Try.underlying3, K0_1, K0_2, K0_4, K0_5, O0_0, O0_1, O0_2, K4_2, K4_4, K4_6, O4_0, O4_1]; done) | simp (maxDischargeDepth := 9) only [RA, Nat.reduceEqDiff, Nat.reduceLT, Nat.reduceLeDiff, Nat.reduceAdd, Nat.reduceSub, Nat.reduceMul, Nat.reduceDiv, Nat.reduceMod, Nat.reducePow, Nat.reduceBEq, Nat.reduceGT, reduceIte, j16, hi, hat, bs1_111, h16, hi32, hk, T1, T3, T5, T30, T38, T56, T57, T111, cvi_8 Try.underlying3 Try.underlying5, cv8_i Try.underlying5 Try.underlying3, K0_1, K0_2, K0_4, K0_5, O0_0, O0_1, O0_2, K4_2, K4_4, K4_6, O4_0, O4_1] | simp (disch := first | assumption | omega) only [RV, j16, hi, hat, bs1_111, h16, hi32, hk, T1, T3, T5, T30, T38, T56, T57, T111, cvi_8 Try.underlying3 Try.underlying5, cv8_i Try.underlying5 Try.underlying3, K0_1, K0_2, K0_4, K0_5, O0_0, O0_1, O0_2, K4_2, K4_4, K4_6, O4_0, O4_1])) <;> rfl)))
          | (apply R_cond
             · (simp only [RE, Nat.reduceEqDiff, Nat.reduceLT, Nat.reduceLeDiff, Nat.reduceBEq, reduceIte] <;> rfl))
          | (apply R_grd
             · (simp only [yieldedA, RY, Nat.reduceEqDiff, reduceIte] <;> rfl)))
        refine R_appI E111 Try.underlying111 (v := e3 15) (x := ac.getD i 0 + (k.getD (16 + i) 0#8).toNat) (p := h3.nx) (lo := h1.nx) (xs := srow ac k i) ?_ ?_ own3.new (by simp only [RH]; omega) (by simp only [RH]) (by simp only [RH]; omega) (by omega) ?_
        · first | rfl | (first | rw [ev_tmp] | rw [ev_const] | skip) <;> simp only [upd_apply, Nat.reduceEqDiff, if_true, if_false, reduceIte, lit_iv, lit_w8, K0_1, K0_2, K0_4, K0_5, O0_0, O0_1, O0_2, K4_2, K4_4, K4_6, O4_0, O4_1]
        · first | rfl | (first | rw [ev_tmp] | rw [ev_const] | skip) <;> simp only [upd_apply, Nat.reduceEqDiff, if_true, if_false, reduceIte, lit_iv, lit_w8, K0_1, K0_2, K0_4, K0_5, O0_0, O0_1, O0_2, K4_2, K4_4, K4_6, O4_0, O4_1]
        intro v4 h4 own4 wt4
        rw [hsc] at own4
        have n4 := wt4.nx
        simp only [RH] at n4
        have F4 := F3.trans ((Fr.new (.refl h1.nx h3) n3 .rw 1 _).trans (wt4.owFr (by simp only [RH]; omega) own3.new))
        have w0 := F4.2 h.nx (by omega)
        rw [O0_0] at w0
        have w1 := F4.2 (h.nx + 1) (by omega)
        rw [O0_1] at w1
        repeat (first
          | refine R_seq ?_ | refine R_region ?_ | refine R_nil ?_ | refine Q_seq ?_ | refine Q_norm ?_ | refine Q_seqr ?_ | refine Q_seqx ?_ | refine Q_bl ?_ | refine Q_blr ?_ | refine Q_blx ?_ | refine Q_blo rfl ?_ | refine R_block ?_ | refine R_skip ?_ | refine R_exit ?_ | refine R_ret ?_ | refine I_true ?_ | refine I_false ?_ | refine N_exit ?_ | refine N_ret ?_
          | ((first | apply R_op | apply R_op0)
             · (first | (simp (maxDischargeDepth := 9) only [RA, Nat.reduceEqDiff, Nat.reduceLT, Nat.reduceLeDiff, Nat.reduceAdd, Nat.reduceSub, Nat.reduceMul, Nat.reduceDiv, Nat.reduceMod, Nat.reducePow, Nat.reduceBEq, Nat.reduceGT, reduceIte, j16, T1, T3, T5, T30, T38, T56, T57, T111, cvi_8 Try.underlying3 Try.underlying5, cv8_i Try.underlying5 Try.underlying3, K0_1, K0_2, K0_4, K0_5, O0_0, O0_1, O0_2, K4_2, K4_4, K4_6, O4_0, O4_1] <;> rfl) | ((repeat (first | (simp (maxDischargeDepth := 9) only [RA, Nat.reduceEqDiff, Nat.reduceLT, Nat.reduceLeDiff, Nat.reduceAdd, Nat.reduceSub, Nat.reduceMul, Nat.reduceDiv, Nat.reduceMod, Nat.reducePow, Nat.reduceBEq, Nat.reduceGT, reduceIte, j16, T1, T3, T5, T30, T38, T56, T57, T111, cvi_8 Try.underlying3 Try.underlying5, cv8_i Try.underlying5 Try.underlying3, K0_1, K0_2, K0_4, K0_5, O0_0, O0_1, O0_2, K4_2, K4_4, K4_6, O4_0, O4_1]; done) | simp (maxDischargeDepth := 9) only [RA, Nat.reduceEqDiff, Nat.reduceLT, Nat.reduceLeDiff, Nat.reduceAdd, Nat.reduceSub, Nat.reduceMul, Nat.reduceDiv, Nat.reduceMod, Nat.reducePow, Nat.reduceBEq, Nat.reduceGT, reduceIte, j16, T1, T3, T5, T30, T38, T56, T57, T111, cvi_8 Try.underlying3 Try.underlying5, cv8_i Try.underlying5 Try.underlying3, K0_1, K0_2, K0_4, K0_5, O0_0, O0_1, O0_2, K4_2, K4_4, K4_6, O4_0, O4_1] | simp (disch := first | assumption | omega) only [RV, j16, T1, T3, T5, T30, T38, T56, T57, T111, cvi_8 Try.underlying3 Try.underlying5, cv8_i Try.underlying5 Try.underlying3, K0_1, K0_2, K0_4, K0_5, O0_0, O0_1, O0_2, K4_2, K4_4, K4_6, O4_0, O4_1])) <;> rfl)))
          | (apply R_cond
             · (simp only [RE, Nat.reduceEqDiff, Nat.reduceLT, Nat.reduceLeDiff, Nat.reduceBEq, reduceIte] <;> rfl))
          | (apply R_grd
             · (simp only [yieldedA, RY, Nat.reduceEqDiff, reduceIte] <;> rfl)))
        refine ⟨rfl, by first | rfl | simp only [List.map_cons, List.map_nil, RH, Nat.reduceAdd, Nat.reduceEqDiff, reduceIte, w0, w1, T1, T3, T5, T30, T38, T56, T57, T111, cvi_8 Try.underlying3 Try.underlying5, cv8_i Try.underlying5 Try.underlying3, K0_1, K0_2, K0_4, K0_5, O0_0, O0_1, O0_2, K4_2, K4_4, K4_6, O4_0, O4_1], by first | rfl | simp only [List.map_cons, List.map_nil, RH, Nat.reduceAdd, Nat.reduceEqDiff, reduceIte, w0, w1, T1, T3, T5, T30, T38, T56, T57, T111, cvi_8 Try.underlying3 Try.underlying5, cv8_i Try.underlying5 Try.underlying3, K0_1, K0_2, K0_4, K0_5, O0_0, O0_1, O0_2, K4_2, K4_4, K4_6, O4_0, O4_1], by first | (simp only [RH, w0, w1, T1, T3, T5, T30, T38, T56, T57, T111, cvi_8 Try.underlying3 Try.underlying5, cv8_i Try.underlying5 Try.underlying3, K0_1, K0_2, K0_4, K0_5, O0_0, O0_1, O0_2, K4_2, K4_4, K4_6, O4_0, O4_1]; done) | ((try simp only [RH, w0, w1, T1, T3, T5, T30, T38, T56, T57, T111, cvi_8 Try.underlying3 Try.underlying5, cv8_i Try.underlying5 Try.underlying3, K0_1, K0_2, K0_4, K0_5, O0_0, O0_1, O0_2, K4_2, K4_4, K4_6, O4_0, O4_1]); omega), ?_⟩
        exact ⟨by (try simp only [List.map_cons, List.map_nil, RH, Nat.reduceAdd, Nat.reduceEqDiff, reduceIte, ev_tmp, ev_const, lit_iv, lit_w8, lit_w32, lit_w64, envOf0, envOf1, envOf2, envOf3, envOf4, envOf5, T1, T3, T5, T30, T38, T56, T57, T111, cvi_8 Try.underlying3 Try.underlying5, cv8_i Try.underlying5 Try.underlying3, K0_1, K0_2, K0_4, K0_5, O0_0, O0_1, O0_2, K4_2, K4_4, K4_6, O4_0, O4_1]), by (try simp only [List.map_cons, List.map_nil, RH, Nat.reduceAdd, Nat.reduceEqDiff, reduceIte, ev_tmp, ev_const, lit_iv, lit_w8, lit_w32, lit_w64, envOf0, envOf1, envOf2, envOf3, envOf4, envOf5, T1, T3, T5, T30, T38, T56, T57, T111, cvi_8 Try.underlying3 Try.underlying5, cv8_i Try.underlying5 Try.underlying3, K0_1, K0_2, K0_4, K0_5, O0_0, O0_1, O0_2, K4_2, K4_4, K4_6, O4_0, O4_1]); exact own4, F4⟩
      · rw [if_neg h16, Nat.add_zero] at hsc
        repeat (first
          | refine R_seq ?_ | refine R_region ?_ | refine R_nil ?_ | refine Q_seq ?_ | refine Q_norm ?_ | refine Q_seqr ?_ | refine Q_seqx ?_ | refine Q_bl ?_ | refine Q_blr ?_ | refine Q_blx ?_ | refine Q_blo rfl ?_ | refine R_block ?_ | refine R_skip ?_ | refine R_exit ?_ | refine R_ret ?_ | refine I_true ?_ | refine I_false ?_ | refine N_exit ?_ | refine N_ret ?_
          | ((first | apply R_op | apply R_op0)
             · (first | (simp (maxDischargeDepth := 9) only [RA, Nat.reduceEqDiff, Nat.reduceLT, Nat.reduceLeDiff, Nat.reduceAdd, Nat.reduceSub, Nat.reduceMul, Nat.reduceDiv, Nat.reduceMod, Nat.reducePow, Nat.reduceBEq, Nat.reduceGT, reduceIte, j16, hi, hat, bs1_111, h16, T1, T3, T5, T30, T38, T56, T57, T111, cvi_8 Try.underlying3 Try.underlying5, cv8_i Try.underlying5 Try.underlying3, K0_1, K0_2, K0_4, K0_5, O0_0, O0_1, O0_2, K4_2, K4_4, K4_6, O4_0, O4_1] <;> rfl) | ((repeat (first | (simp (maxDischargeDepth := 9) only [RA, Nat.reduceEqDiff, Nat.reduceLT, Nat.reduceLeDiff, Nat.reduceAdd, Nat.reduceSub, Nat.reduceMul, Nat.reduceDiv, Nat.reduceMod, Nat.reducePow, Nat.reduceBEq, Nat.reduceGT, reduceIte, j16, hi, hat, bs1_111, h16, T1, T3, T5, T30, T38, T56, T57, T111, cvi_8 Try.underlying3 Try.underlying5, cv8_i Try.underlying5 Try.underlying3, K0_1, K0_2, K0_4, K0_5, O0_0, O0_1, O0_2, K4_2, K4_4, K4_6, O4_0, O4_1]; done) | simp (maxDischargeDepth := 9) only [RA, Nat.reduceEqDiff, Nat.reduceLT, Nat.reduceLeDiff, Nat.reduceAdd, Nat.reduceSub, Nat.reduceMul, Nat.reduceDiv, Nat.reduceMod, Nat.reducePow, Nat.reduceBEq, Nat.reduceGT, reduceIte, j16, hi, hat, bs1_111, h16, T1, T3, T5, T30, T38, T56, T57, T111, cvi_8 Try.underlying3 Try.underlying5, cv8_i Try.underlying5 Try.underlying3, K0_1, K0_2, K0_4, K0_5, O0_0, O0_1, O0_2, K4_2, K4_4, K4_6, O4_0, O4_1] | simp (disch := first | assumption | omega) only [RV, j16, hi, hat, bs1_111, h16, T1, T3, T5, T30, T38, T56, T57, T111, cvi_8 Try.underlying3 Try.underlying5, cv8_i Try.underlying5 Try.underlying3, K0_1, K0_2, K0_4, K0_5, O0_0, O0_1, O0_2, K4_2, K4_4, K4_6, O4_0, O4_1])) <;> rfl)))
          | (apply R_cond
             · (simp only [RE, Nat.reduceEqDiff, Nat.reduceLT, Nat.reduceLeDiff, Nat.reduceBEq, reduceIte] <;> rfl))
          | (apply R_grd
             · (simp only [yieldedA, RY, Nat.reduceEqDiff, reduceIte] <;> rfl)))
        refine R_appI E111 Try.underlying111 (v := e3 15) (x := ac.getD i 0) (p := h3.nx) (lo := h1.nx) (xs := srow ac k i) ?_ ?_ own3.new (by simp only [RH]; omega) (by simp only [RH]) (by simp only [RH]; omega) (by omega) ?_
        · first | rfl | (first | rw [ev_tmp] | rw [ev_const] | skip) <;> simp only [upd_apply, Nat.reduceEqDiff, if_true, if_false, reduceIte, lit_iv, lit_w8, K0_1, K0_2, K0_4, K0_5, O0_0, O0_1, O0_2, K4_2, K4_4, K4_6, O4_0, O4_1]
        · first | rfl | (first | rw [ev_tmp] | rw [ev_const] | skip) <;> simp only [upd_apply, Nat.reduceEqDiff, if_true, if_false, reduceIte, lit_iv, lit_w8, K0_1, K0_2, K0_4, K0_5, O0_0, O0_1, O0_2, K4_2, K4_4, K4_6, O4_0, O4_1]
        intro v4 h4 own4 wt4
        rw [hsc] at own4
        have n4 := wt4.nx
        simp only [RH] at n4
        have F4 := F3.trans ((Fr.new (.refl h1.nx h3) n3 .rw 1 _).trans (wt4.owFr (by simp only [RH]; omega) own3.new))
        have w0 := F4.2 h.nx (by omega)
        rw [O0_0] at w0
        have w1 := F4.2 (h.nx + 1) (by omega)
        rw [O0_1] at w1
        repeat (first
          | refine R_seq ?_ | refine R_region ?_ | refine R_nil ?_ | refine Q_seq ?_ | refine Q_norm ?_ | refine Q_seqr ?_ | refine Q_seqx ?_ | refine Q_bl ?_ | refine Q_blr ?_ | refine Q_blx ?_ | refine Q_blo rfl ?_ | refine R_block ?_ | refine R_skip ?_ | refine R_exit ?_ | refine R_ret ?_ | refine I_true ?_ | refine I_false ?_ | refine N_exit ?_ | refine N_ret ?_
          | ((first | apply R_op | apply R_op0)
             · (first | (simp (maxDischargeDepth := 9) only [RA, Nat.reduceEqDiff, Nat.reduceLT, Nat.reduceLeDiff, Nat.reduceAdd, Nat.reduceSub, Nat.reduceMul, Nat.reduceDiv, Nat.reduceMod, Nat.reducePow, Nat.reduceBEq, Nat.reduceGT, reduceIte, j16, T1, T3, T5, T30, T38, T56, T57, T111, cvi_8 Try.underlying3 Try.underlying5, cv8_i Try.underlying5 Try.underlying3, K0_1, K0_2, K0_4, K0_5, O0_0, O0_1, O0_2, K4_2, K4_4, K4_6, O4_0, O4_1] <;> rfl) | ((repeat (first | (simp (maxDischargeDepth := 9) only [RA, Nat.reduceEqDiff, Nat.reduceLT, Nat.reduceLeDiff, Nat.reduceAdd, Nat.reduceSub, Nat.reduceMul, Nat.reduceDiv, Nat.reduceMod, Nat.reducePow, Nat.reduceBEq, Nat.reduceGT, reduceIte, j16, T1, T3, T5, T30, T38, T56, T57, T111, cvi_8 Try.underlying3 Try.underlying5, cv8_i Try.underlying5 Try.underlying3, K0_1, K0_2, K0_4, K0_5, O0_0, O0_1, O0_2, K4_2, K4_4, K4_6, O4_0, O4_1]; done) | simp (maxDischargeDepth := 9) only [RA, Nat.reduceEqDiff, Nat.reduceLT, Nat.reduceLeDiff, Nat.reduceAdd, Nat.reduceSub, Nat.reduceMul, Nat.reduceDiv, Nat.reduceMod, Nat.reducePow, Nat.reduceBEq, Nat.reduceGT, reduceIte, j16, T1, T3, T5, T30, T38, T56, T57, T111, cvi_8 Try.underlying3 Try.underlying5, cv8_i Try.underlying5 Try.underlying3, K0_1, K0_2, K0_4, K0_5, O0_0, O0_1, O0_2, K4_2, K4_4, K4_6, O4_0, O4_1] | simp (disch := first | assumption | omega) only [RV, j16, T1, T3, T5, T30, T38, T56, T57, T111, cvi_8 Try.underlying3 Try.underlying5, cv8_i Try.underlying5 Try.underlying3, K0_1, K0_2, K0_4, K0_5, O0_0, O0_1, O0_2, K4_2, K4_4, K4_6, O4_0, O4_1])) <;> rfl)))
          | (apply R_cond
             · (simp only [RE, Nat.reduceEqDiff, Nat.reduceLT, Nat.reduceLeDiff, Nat.reduceBEq, reduceIte] <;> rfl))
          | (apply R_grd
             · (simp only [yieldedA, RY, Nat.reduceEqDiff, reduceIte] <;> rfl)))
        refine ⟨rfl, by first | rfl | simp only [List.map_cons, List.map_nil, RH, Nat.reduceAdd, Nat.reduceEqDiff, reduceIte, w0, w1, T1, T3, T5, T30, T38, T56, T57, T111, cvi_8 Try.underlying3 Try.underlying5, cv8_i Try.underlying5 Try.underlying3, K0_1, K0_2, K0_4, K0_5, O0_0, O0_1, O0_2, K4_2, K4_4, K4_6, O4_0, O4_1], by first | rfl | simp only [List.map_cons, List.map_nil, RH, Nat.reduceAdd, Nat.reduceEqDiff, reduceIte, w0, w1, T1, T3, T5, T30, T38, T56, T57, T111, cvi_8 Try.underlying3 Try.underlying5, cv8_i Try.underlying5 Try.underlying3, K0_1, K0_2, K0_4, K0_5, O0_0, O0_1, O0_2, K4_2, K4_4, K4_6, O4_0, O4_1], by first | (simp only [RH, w0, w1, T1, T3, T5, T30, T38, T56, T57, T111, cvi_8 Try.underlying3 Try.underlying5, cv8_i Try.underlying5 Try.underlying3, K0_1, K0_2, K0_4, K0_5, O0_0, O0_1, O0_2, K4_2, K4_4, K4_6, O4_0, O4_1]; done) | ((try simp only [RH, w0, w1, T1, T3, T5, T30, T38, T56, T57, T111, cvi_8 Try.underlying3 Try.underlying5, cv8_i Try.underlying5 Try.underlying3, K0_1, K0_2, K0_4, K0_5, O0_0, O0_1, O0_2, K4_2, K4_4, K4_6, O4_0, O4_1]); omega), ?_⟩
        exact ⟨by (try simp only [List.map_cons, List.map_nil, RH, Nat.reduceAdd, Nat.reduceEqDiff, reduceIte, ev_tmp, ev_const, lit_iv, lit_w8, lit_w32, lit_w64, envOf0, envOf1, envOf2, envOf3, envOf4, envOf5, T1, T3, T5, T30, T38, T56, T57, T111, cvi_8 Try.underlying3 Try.underlying5, cv8_i Try.underlying5 Try.underlying3, K0_1, K0_2, K0_4, K0_5, O0_0, O0_1, O0_2, K4_2, K4_4, K4_6, O4_0, O4_1]), by (try simp only [List.map_cons, List.map_nil, RH, Nat.reduceAdd, Nat.reduceEqDiff, reduceIte, ev_tmp, ev_const, lit_iv, lit_w8, lit_w32, lit_w64, envOf0, envOf1, envOf2, envOf3, envOf4, envOf5, T1, T3, T5, T30, T38, T56, T57, T111, cvi_8 Try.underlying3 Try.underlying5, cv8_i Try.underlying5 Try.underlying3, K0_1, K0_2, K0_4, K0_5, O0_0, O0_1, O0_2, K4_2, K4_4, K4_6, O4_0, O4_1]); exact own4, F4⟩
    · intro e3 h3 hK hO hN ⟨j16, own3, F3⟩
      simp only [List.map_cons, List.map_nil, List.cons.injEq, and_true, RH, Nat.reduceAdd, Nat.reduceEqDiff, reduceIte, envOf0, envOf1, envOf2, envOf3, envOf4, envOf5, K0_2, K0_4, O0_0, O0_1, K0_1, K0_2, K0_4, K0_5, O0_0, O0_1, O0_2] at hK
      obtain ⟨K4_2, K4_4, K4_6⟩ := hK
      simp only [List.map_cons, List.map_nil, List.cons.injEq, and_true, RH, Nat.reduceAdd, Nat.reduceEqDiff, reduceIte, envOf0, envOf1, envOf2, envOf3, envOf4, envOf5, K0_2, K0_4, O0_0, O0_1, K0_1, K0_2, K0_4, K0_5, O0_0, O0_1, O0_2] at hO
      obtain ⟨O4_0, O4_1⟩ := hO
      try simp only [RH] at hN
      have n3 := F3.1
      have hxl := srow_length ac k 17
      have hM : ∀ x ∈ srow ac k 17, x ≤ 1073741824 := by
        unfold srow
        refine rows_le fun i => ?_
        have h1 := hga i
        have h2 := (k.getD (16 + i) 0#8).isLt
        split <;> omega
      have hx2 : leV (srow ac k 17) = leV ac + leN ((k.drop 16).take 16) := by unfold srow; exact hsV
      have hcv := carryL_V (srow ac k 17) 0
      have hcb := carryL_lt (srow ac k 17) 0
      have hcl2 := carryL_length hM (c := 0) (by omega)
      have hcg := carryL_ge (srow ac k 17) 0
      rw [Nat.add_zero, hx2] at hcv
      repeat (first
        | refine R_seq ?_ | refine R_region ?_ | refine R_nil ?_ | refine Q_seq ?_ | refine Q_norm ?_ | refine Q_seqr ?_ | refine Q_seqx ?_ | refine Q_bl ?_ | refine Q_blr ?_ | refine Q_blx ?_ | refine Q_blo rfl ?_ | refine R_block ?_ | refine R_skip ?_ | refine R_exit ?_ | refine R_ret ?_ | refine I_true ?_ | refine I_false ?_ | refine N_exit ?_ | refine N_ret ?_
        | ((first | apply R_op | apply R_op0)
           · (first | (simp (maxDischargeDepth := 9) only [RA, Nat.reduceEqDiff, Nat.reduceLT, Nat.reduceLeDiff, Nat.reduceAdd, Nat.reduceSub, Nat.reduceMul, Nat.reduceDiv, Nat.reduceMod, Nat.reducePow, Nat.reduceBEq, Nat.reduceGT, reduceIte, j16, T1, T3, T5, T30, T38, T56, T57, T111, cvi_8 Try.underlying3 Try.underlying5, cv8_i Try.underlying5 Try.underlying3, K0_1, K0_2, K0_4, K0_5, O0_0, O0_1, O0_2, K4_2, K4_4, K4_6, O4_0, O4_1] <;> rfl) | ((repeat (first | (simp (maxDischargeDepth := 9) only [RA, Nat.reduceEqDiff, Nat.reduceLT, Nat.reduceLeDiff, Nat.reduceAdd, Nat.reduceSub, Nat.reduceMul, Nat.reduceDiv, Nat.reduceMod, Nat.reducePow, Nat.reduceBEq, Nat.reduceGT, reduceIte, j16, T1, T3, T5, T30, T38, T56, T57, T111, cvi_8 Try.underlying3 Try.underlying5, cv8_i Try.underlying5 Try.underlying3, K0_1, K0_2, K0_4, K0_5, O0_0, O0_1, O0_2, K4_2, K4_4, K4_6, O4_0, O4_1]; done) | simp (maxDischargeDepth := 9) only [RA, Nat.reduceEqDiff, Nat.reduceLT, Nat.reduceLeDiff, Nat.reduceAdd, Nat.reduceSub, Nat.reduceMul, Nat.reduceDiv, Nat.reduceMod, Nat.reducePow, Nat.reduceBEq, Nat.reduceGT, reduceIte, j16, T1, T3, T5, T30, T38, T56, T57, T111, cvi_8 Try.underlying3 Try.underlying5, cv8_i Try.underlying5 Try.underlying3, K0_1, K0_2, K0_4, K0_5, O0_0, O0_1, O0_2, K4_2, K4_4, K4_6, O4_0, O4_1] | simp (disch := first | assumption | omega) only [RV, j16, T1, T3, T5, T30, T38, T56, T57, T111, cvi_8 Try.underlying3 Try.underlying5, cv8_i Try.underlying5 Try.underlying3, K0_1, K0_2, K0_4, K0_5, O0_0, O0_1, O0_2, K4_2, K4_4, K4_6, O4_0, O4_1])) <;> rfl)))
        | (apply R_cond
           · (simp only [RE, Nat.reduceEqDiff, Nat.reduceLT, Nat.reduceLeDiff, Nat.reduceBEq, reduceIte] <;> rfl))
        | (apply R_grd
           · (simp only [yieldedA, RY, Nat.reduceEqDiff, reduceIte] <;> rfl)))
      refine R_fn ?_ (carry105 (q + 1) h3 (e3 15) (srow ac k 17) own3.sl hM (by omega)) ?_
      · rfl
      intro v4 h4 ⟨own4, F4⟩
      generalize carryL (srow ac k 17) 0 = x at own4 hcv hcb hcl2 hcg
      rw [hxl] at hcl2 hcg
      have n4 := F4.1
      have hT : ((List.range 16).map fun i => BitVec.ofNat 8 (x.getD i 0)) = polyT k b := by
        rw [bytes_leB hcb (by omega), hcv, hav]
        unfold polyT; rfl
      have w1 := (F3.trans (F4.le n3)).2 (h.nx + 1) (by omega)
      rw [O0_1] at w1
      have c1 : (h.nx + 1 = h4.nx) = False := eq_false (by omega)
      have c2 : (h4.nx = h.nx + 1) = False := eq_false (by omega)
      repeat (first
        | refine R_seq ?_ | refine R_region ?_ | refine R_nil ?_ | refine Q_seq ?_ | refine Q_norm ?_ | refine Q_seqr ?_ | refine Q_seqx ?_ | refine Q_bl ?_ | refine Q_blr ?_ | refine Q_blx ?_ | refine Q_blo rfl ?_ | refine R_block ?_ | refine R_skip ?_ | refine R_exit ?_ | refine R_ret ?_ | refine I_true ?_ | refine I_false ?_ | refine N_exit ?_ | refine N_ret ?_
        | ((first | apply R_op | apply R_op0)
           · (first | (simp (maxDischargeDepth := 9) only [RA, Nat.reduceEqDiff, Nat.reduceLT, Nat.reduceLeDiff, Nat.reduceAdd, Nat.reduceSub, Nat.reduceMul, Nat.reduceDiv, Nat.reduceMod, Nat.reducePow, Nat.reduceBEq, Nat.reduceGT, reduceIte, T1, T3, T5, T30, T38, T56, T57, T111, cvi_8 Try.underlying3 Try.underlying5, cv8_i Try.underlying5 Try.underlying3, K0_1, K0_2, K0_4, K0_5, O0_0, O0_1, O0_2, K4_2, K4_4, K4_6, O4_0, O4_1] <;> rfl) | ((repeat (first | (simp (maxDischargeDepth := 9) only [RA, Nat.reduceEqDiff, Nat.reduceLT, Nat.reduceLeDiff, Nat.reduceAdd, Nat.reduceSub, Nat.reduceMul, Nat.reduceDiv, Nat.reduceMod, Nat.reducePow, Nat.reduceBEq, Nat.reduceGT, reduceIte, T1, T3, T5, T30, T38, T56, T57, T111, cvi_8 Try.underlying3 Try.underlying5, cv8_i Try.underlying5 Try.underlying3, K0_1, K0_2, K0_4, K0_5, O0_0, O0_1, O0_2, K4_2, K4_4, K4_6, O4_0, O4_1]; done) | simp (maxDischargeDepth := 9) only [RA, Nat.reduceEqDiff, Nat.reduceLT, Nat.reduceLeDiff, Nat.reduceAdd, Nat.reduceSub, Nat.reduceMul, Nat.reduceDiv, Nat.reduceMod, Nat.reducePow, Nat.reduceBEq, Nat.reduceGT, reduceIte, T1, T3, T5, T30, T38, T56, T57, T111, cvi_8 Try.underlying3 Try.underlying5, cv8_i Try.underlying5 Try.underlying3, K0_1, K0_2, K0_4, K0_5, O0_0, O0_1, O0_2, K4_2, K4_4, K4_6, O4_0, O4_1] | simp (disch := first | assumption | omega) only [RV, T1, T3, T5, T30, T38, T56, T57, T111, cvi_8 Try.underlying3 Try.underlying5, cv8_i Try.underlying5 Try.underlying3, K0_1, K0_2, K0_4, K0_5, O0_0, O0_1, O0_2, K4_2, K4_4, K4_6, O4_0, O4_1])) <;> rfl)))
        | (apply R_cond
           · (simp only [RE, Nat.reduceEqDiff, Nat.reduceLT, Nat.reduceLeDiff, Nat.reduceBEq, reduceIte] <;> rfl))
        | (apply R_grd
           · (simp only [yieldedA, RY, Nat.reduceEqDiff, reduceIte] <;> rfl)))
      refine W_loopK [4, 15, 18] [h.nx + 1] (fun i e6 h6 => e6 19 = iv i ∧ h6.obj h4.nx = some (.row .rw 1 (b8 (cpy (polyT k b) 16 i))) ∧ Fr h4.nx h4 h6) 16 (by omega) ?_ ?_ ?_
      · exact ⟨by (try simp only [List.map_cons, List.map_nil, RH, Nat.reduceAdd, Nat.reduceEqDiff, reduceIte, ev_tmp, ev_const, lit_iv, lit_w8, lit_w32, lit_w64, envOf0, envOf1, envOf2, envOf3, envOf4, envOf5, T1, T3, T5, T30, T38, T56, T57, T111, cvi_8 Try.underlying3 Try.underlying5, cv8_i Try.underlying5 Try.underlying3, K0_1, K0_2, K0_4, K0_5, O0_0, O0_1, O0_2, K4_2, K4_4, K4_6, O4_0, O4_1]), by simp [RH, cpy_zero], by (repeat (first | assumption | exact Fr.refl _ _ | refine Fr.new ?_ ?_ _ _ _ | refine Fr.put ?_ ?_ _ | omega | (simp only [RH]; omega)))⟩
      · intro i hi e6 h6 hK hO hN ⟨j19, oT, F6⟩
        simp only [List.map_cons, List.map_nil, List.cons.injEq, and_true, RH, Nat.reduceAdd, Nat.reduceEqDiff, reduceIte, envOf0, envOf1, envOf2, envOf3, envOf4, envOf5, K4_4, w1, c1, K0_1, K0_2, K0_4, K0_5, O0_0, O0_1, O0_2, K4_2, K4_4, K4_6, O4_0, O4_1] at hK
        obtain ⟨K5_4, K5_15, K5_18⟩ := hK
        simp only [List.map_cons, List.map_nil, List.cons.injEq, and_true, RH, Nat.reduceAdd, Nat.reduceEqDiff, reduceIte, envOf0, envOf1, envOf2, envOf3, envOf4, envOf5, K4_4, w1, c1, K0_1, K0_2, K0_4, K0_5, O0_0, O0_1, O0_2, K4_2, K4_4, K4_6, O4_0, O4_1] at hO
        have O5_0 := hO
        try simp only [RH] at hN
        have n6 := F6.1
        have own46 : OwI h3.nx h6 v4 x := own4.keep F6.1 (fun r hr => F6.2 r (own4.rows r hr).2)
        have hix : i < x.length := by omega
        have hiax := S111ia own46.sl hix
        have hldx := iv_ld Try.underlying3 inf3 own46.sl fr_refl hix
        have hTl := polyT_length k b
        have hcll := cpy_length (xs := polyT k b) (n := 16) (i := i) (by omega) (by omega)
        have hcs := cpy_set (xs := polyT k b) (n := 16) (i := i) hi (by omega)
        have hTi : (polyT k b).getD i 0#8 = BitVec.ofNat 8 (x.getD i 0) := by
          rw [← hT, List.getD_eq_getElem?_getD, List.getElem?_map, List.getElem?_range hi]; rfl
        rw [hTi] at hcs
        repeat (first
          | refine R_seq ?_ | refine R_region ?_ | refine R_nil ?_ | refine Q_seq ?_ | refine Q_norm ?_ | refine Q_seqr ?_ | refine Q_seqx ?_ | refine Q_bl ?_ | refine Q_blr ?_ | refine Q_blx ?_ | refine Q_blo rfl ?_ | refine R_block ?_ | refine R_skip ?_ | refine R_exit ?_ | refine R_ret ?_ | refine I_true ?_ | refine I_false ?_ | refine N_exit ?_ | refine N_ret ?_
          | ((first | apply R_op | apply R_op0)
             · (first | (simp (maxDischargeDepth := 9) only [RA, Nat.reduceEqDiff, Nat.reduceLT, Nat.reduceLeDiff, Nat.reduceAdd, Nat.reduceSub, Nat.reduceMul, Nat.reduceDiv, Nat.reduceMod, Nat.reducePow, Nat.reduceBEq, Nat.reduceGT, reduceIte, j19, hi, oT, hcll, hiax, hldx, hcs, c1, T1, T3, T5, T30, T38, T56, T57, T111, cvi_8 Try.underlying3 Try.underlying5, cv8_i Try.underlying5 Try.underlying3, K0_1, K0_2, K0_4, K0_5, O0_0, O0_1, O0_2, K4_2, K4_4, K4_6, O4_0, O4_1, K5_4, K5_15, K5_18, O5_0] <;> rfl) | ((repeat (first | (simp (maxDischargeDepth := 9) only [RA, Nat.reduceEqDiff, Nat.reduceLT, Nat.reduceLeDiff, Nat.reduceAdd, Nat.reduceSub, Nat.reduceMul, Nat.reduceDiv, Nat.reduceMod, Nat.reducePow, Nat.reduceBEq, Nat.reduceGT, reduceIte, j19, hi, oT, hcll, hiax, hldx, hcs, c1, T1, T3, T5, T30, T38, T56, T57, T111, cvi_8 Try.underlying3 Try.underlying5, cv8_i Try.underlying5 Try.underlying3, K0_1, K0_2, K0_4, K0_5, O0_0, O0_1, O0_2, K4_2, K4_4, K4_6, O4_0, O4_1, K5_4, K5_15, K5_18, O5_0]; done) | simp (maxDischargeDepth := 9) only [RA, Nat.reduceEqDiff, Nat.reduceLT, Nat.reduceLeDiff, Nat.reduceAdd, Nat.reduceSub, Nat.reduceMul, Nat.reduceDiv, Nat.reduceMod, Nat.reducePow, Nat.reduceBEq, Nat.reduceGT, reduceIte, j19, hi, oT, hcll, hiax, hldx, hcs, c1, T1, T3, T5, T30, T38, T56, T57, T111, cvi_8 Try.underlying3 Try.underlying5, cv8_i Try.underlying5 Try.underlying3, K0_1, K0_2, K0_4, K0_5, O0_0, O0_1, O0_2, K4_2, K4_4, K4_6, O4_0, O4_1, K5_4, K5_15, K5_18, O5_0] | simp (disch := first | assumption | omega) only [RV, j19, hi, oT, hcll, hiax, hldx, hcs, c1, T1, T3, T5, T30, T38, T56, T57, T111, cvi_8 Try.underlying3 Try.underlying5, cv8_i Try.underlying5 Try.underlying3, K0_1, K0_2, K0_4, K0_5, O0_0, O0_1, O0_2, K4_2, K4_4, K4_6, O4_0, O4_1, K5_4, K5_15, K5_18, O5_0])) <;> rfl)))
          | (apply R_cond
             · (simp only [RE, Nat.reduceEqDiff, Nat.reduceLT, Nat.reduceLeDiff, Nat.reduceBEq, reduceIte] <;> rfl))
          | (apply R_grd
             · (simp only [yieldedA, RY, Nat.reduceEqDiff, reduceIte] <;> rfl)))
        refine ⟨rfl, by first | rfl | simp only [List.map_cons, List.map_nil, RH, Nat.reduceAdd, Nat.reduceEqDiff, reduceIte, c1, T1, T3, T5, T30, T38, T56, T57, T111, cvi_8 Try.underlying3 Try.underlying5, cv8_i Try.underlying5 Try.underlying3, K0_1, K0_2, K0_4, K0_5, O0_0, O0_1, O0_2, K4_2, K4_4, K4_6, O4_0, O4_1, K5_4, K5_15, K5_18, O5_0], by first | rfl | simp only [List.map_cons, List.map_nil, RH, Nat.reduceAdd, Nat.reduceEqDiff, reduceIte, c1, T1, T3, T5, T30, T38, T56, T57, T111, cvi_8 Try.underlying3 Try.underlying5, cv8_i Try.underlying5 Try.underlying3, K0_1, K0_2, K0_4, K0_5, O0_0, O0_1, O0_2, K4_2, K4_4, K4_6, O4_0, O4_1, K5_4, K5_15, K5_18, O5_0], by first | (simp only [RH, c1, T1, T3, T5, T30, T38, T56, T57, T111, cvi_8 Try.underlying3 Try.underlying5, cv8_i Try.underlying5 Try.underlying3, K0_1, K0_2, K0_4, K0_5, O0_0, O0_1, O0_2, K4_2, K4_4, K4_6, O4_0, O4_1, K5_4, K5_15, K5_18, O5_0]; done) | ((try simp only [RH, c1, T1, T3, T5, T30, T38, T56, T57, T111, cvi_8 Try.underlying3 Try.underlying5, cv8_i Try.underlying5 Try.underlying3, K0_1, K0_2, K0_4, K0_5, O0_0, O0_1, O0_2, K4_2, K4_4, K4_6, O4_0, O4_1, K5_4, K5_15, K5_18, O5_0]); omega), ?_⟩
        exact ⟨by (try simp only [List.map_cons, List.map_nil, RH, Nat.reduceAdd, Nat.reduceEqDiff, reduceIte, ev_tmp, ev_const, lit_iv, lit_w8, lit_w32, lit_w64, envOf0, envOf1, envOf2, envOf3, envOf4, envOf5, T1, T3, T5, T30, T38, T56, T57, T111, cvi_8 Try.underlying3 Try.underlying5, cv8_i Try.underlying5 Try.underlying3, K0_1, K0_2, K0_4, K0_5, O0_0, O0_1, O0_2, K4_2, K4_4, K4_6, O4_0, O4_1, K5_4, K5_15, K5_18, O5_0]), by simp [RH], by (repeat (first | assumption | exact Fr.refl _ _ | refine Fr.new ?_ ?_ _ _ _ | refine Fr.put ?_ ?_ _ | omega | (simp only [RH]; omega)))⟩
      · intro e6 h6 hK hO hN ⟨j19, oT, F6⟩
        simp only [List.map_cons, List.map_nil, List.cons.injEq, and_true, RH, Nat.reduceAdd, Nat.reduceEqDiff, reduceIte, envOf0, envOf1, envOf2, envOf3, envOf4, envOf5, K4_4, w1, c1, K0_1, K0_2, K0_4, K0_5, O0_0, O0_1, O0_2, K4_2, K4_4, K4_6, O4_0, O4_1] at hK
        obtain ⟨K5_4, K5_15, K5_18⟩ := hK
        simp only [List.map_cons, List.map_nil, List.cons.injEq, and_true, RH, Nat.reduceAdd, Nat.reduceEqDiff, reduceIte, envOf0, envOf1, envOf2, envOf3, envOf4, envOf5, K4_4, w1, c1, K0_1, K0_2, K0_4, K0_5, O0_0, O0_1, O0_2, K4_2, K4_4, K4_6, O4_0, O4_1] at hO
        have O5_0 := hO
        try simp only [RH] at hN
        rw [cpy_full, List.take_of_length_le (by rw [polyT_length]; omega)] at oT
        have hTl := polyT_length k b
        repeat (first
          | refine R_seq ?_ | refine R_region ?_ | refine R_nil ?_ | refine Q_seq ?_ | refine Q_norm ?_ | refine Q_seqr ?_ | refine Q_seqx ?_ | refine Q_bl ?_ | refine Q_blr ?_ | refine Q_blx ?_ | refine Q_blo rfl ?_ | refine R_block ?_ | refine R_skip ?_ | refine R_exit ?_ | refine R_ret ?_ | refine I_true ?_ | refine I_false ?_ | refine N_exit ?_ | refine N_ret ?_
          | ((first | apply R_op | apply R_op0)
             · (first | (simp (maxDischargeDepth := 9) only [RA, Nat.reduceEqDiff, Nat.reduceLT, Nat.reduceLeDiff, Nat.reduceAdd, Nat.reduceSub, Nat.reduceMul, Nat.reduceDiv, Nat.reduceMod, Nat.reducePow, Nat.reduceBEq, Nat.reduceGT, reduceIte, j19, oT, cut8 hTl, puts8 hTl (List.length_replicate (n := 16) (a := 0#8)), c1, c2, T1, T3, T5, T30, T38, T56, T57, T111, cvi_8 Try.underlying3 Try.underlying5, cv8_i Try.underlying5 Try.underlying3, K0_1, K0_2, K0_4, K0_5, O0_0, O0_1, O0_2, K4_2, K4_4, K4_6, O4_0, O4_1, K5_4, K5_15, K5_18, O5_0] <;> rfl) | ((repeat (first | (simp (maxDischargeDepth := 9) only [RA, Nat.reduceEqDiff, Nat.reduceLT, Nat.reduceLeDiff, Nat.reduceAdd, Nat.reduceSub, Nat.reduceMul, Nat.reduceDiv, Nat.reduceMod, Nat.reducePow, Nat.reduceBEq, Nat.reduceGT, reduceIte, j19, oT, cut8 hTl, puts8 hTl (List.length_replicate (n := 16) (a := 0#8)), c1, c2, T1, T3, T5, T30, T38, T56, T57, T111, cvi_8 Try.underlying3 Try.underlying5, cv8_i Try.underlying5 Try.underlying3, K0_1, K0_2, K0_4, K0_5, O0_0, O0_1, O0_2, K4_2, K4_4, K4_6, O4_0, O4_1, K5_4, K5_15, K5_18, O5_0]; done) | simp (maxDischargeDepth := 9) only [RA, Nat.reduceEqDiff, Nat.reduceLT, Nat.reduceLeDiff, Nat.reduceAdd, Nat.reduceSub, Nat.reduceMul, Nat.reduceDiv, Nat.reduceMod, Nat.reducePow, Nat.reduceBEq, Nat.reduceGT, reduceIte, j19, oT, cut8 hTl, puts8 hTl (List.length_replicate (n := 16) (a := 0#8)), c1, c2, T1, T3, T5, T30, T38, T56, T57, T111, cvi_8 Try.underlying3 Try.underlying5, cv8_i Try.underlying5 Try.underlying3, K0_1, K0_2, K0_4, K0_5, O0_0, O0_1, O0_2, K4_2, K4_4, K4_6, O4_0, O4_1, K5_4, K5_15, K5_18, O5_0] | simp (disch := first | assumption | omega) only [RV, j19, oT, cut8 hTl, puts8 hTl (List.length_replicate (n := 16) (a := 0#8)), c1, c2, T1, T3, T5, T30, T38, T56, T57, T111, cvi_8 Try.underlying3 Try.underlying5, cv8_i Try.underlying5 Try.underlying3, K0_1, K0_2, K0_4, K0_5, O0_0, O0_1, O0_2, K4_2, K4_4, K4_6, O4_0, O4_1, K5_4, K5_15, K5_18, O5_0])) <;> rfl)))
          | (apply R_cond
             · (simp only [RE, Nat.reduceEqDiff, Nat.reduceLT, Nat.reduceLeDiff, Nat.reduceBEq, reduceIte] <;> rfl))
          | (apply R_grd
             · (simp only [yieldedA, RY, Nat.reduceEqDiff, reduceIte] <;> rfl)))
        (first | refine ⟨.inr rfl, ?_⟩ | refine ⟨.inl rfl, ?_⟩)
        simp only [evResultList, evResult, RA, Nat.reduceEqDiff, Nat.reduceLT, Nat.reduceLeDiff, Nat.reduceAdd, Nat.reduceSub, Nat.reduceMul, Nat.reduceDiv, Nat.reduceMod, Nat.reducePow, Nat.reduceBEq, Nat.reduceGT, reduceIte, cut8 hTl, T1, T3, T5, T30, T38, T56, T57, T111, cvi_8 Try.underlying3 Try.underlying5, cv8_i Try.underlying5 Try.underlying3, K0_1, K0_2, K0_4, K0_5, O0_0, O0_1, O0_2, K4_2, K4_4, K4_6, O4_0, O4_1, K5_4, K5_15, K5_18, O5_0]
        refine ⟨_, rfl, ?_⟩
        exact ⟨rfl, (FH.trans ((F1.trans ((F3.trans ((F4.trans (F6.le (by omega))).le n3)).le n1)).le (by omega))).put (by omega) _⟩
end Go.Proofs.Ytfehhihllenjiaa
