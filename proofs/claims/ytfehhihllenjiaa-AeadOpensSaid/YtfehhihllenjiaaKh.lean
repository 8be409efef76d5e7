/- One-time tags: the key's first half, blocks, the rest. -/
import Derived.Test.YtfehhihllenjiaaKf
import Derived.Test.YtfehhihllenjiaaKc
set_option linter.all false
namespace Go.Proofs.Ytfehhihllenjiaa
open Go.Proofs
attribute [local irreducible] evOps iter evD evF evC evLoad evStore evAlloc evIndexAddr evIndex evLenB evBox evBin evUn evConvert evExtract evSlice evAppend evCopy evNil evBuild evMakeSlice evBuildSlice evBuiltin Program.underlying
attribute [local irreducible] mulHi addC
theorem arr56 {b i c : Nat} : evToArr Try.prog 56 (.slice (some ⟨b, i, none⟩) 16 c) = some (.pointer (some ⟨b, i, none⟩)) := by simp [evToArr, Try.underlying56]
theorem cutV16 (kd : Kind) (es : Nat) {k : List (BitVec 8)} (hk : 16 ≤ k.length) : cutV (some (.row kd es (b8 k))) 0 16 = some (.agg ⟨b8 (k.take 16)⟩) := by
  show (if 0 + 16 ≤ (b8 k).length then some (Value.agg (((b8 k).drop 0).take 16).toArray) else none) = _
  rw [b8_length, if_pos (by omega), List.drop_zero]
  unfold b8
  rw [List.map_take]
theorem inl102 : inlOf Try.prog 102 = true := by kernel_rfl
theorem iso102 : isoOf Try.prog 102 = false := by kernel_rfl
set_option maxRecDepth 20000 in
set_option maxHeartbeats 8000000 in
theorem rest102 (q : Nat) (h : Heap) (p : Nat) (hp : p < h.nx) (w0 w1 w2 : BitVec 64) (rest : List Value) (ho : h.obj p = some (.row .rw 1 (w64 w0 :: w64 w1 :: w64 w2 :: rest))) (hl : N3 w0 w1 w2 < Q130) :
    ∃ v' h', fcall Try.prog (q + 4) (.func (.func 102) #[] #[]) [.pointer (some ⟨p, 0, none⟩)] h = some (.ok v', h') ∧ (∃ s0 s1 s2, v' = .agg ⟨[w64 s0, w64 s1, w64 s2]⟩ ∧ N3 s0 s1 s2 = N3 w0 w1 w2 % P130) ∧ Fr h.nx h h' := by
  rw [fcall_inl inl102 iso102, evF_eq Try.func102 rfl]
  apply evEnd_of_W
  simp only [Try.f102]
  have hpe : (p = h.nx) = False := eq_false (by omega)
  have hpe1 : (p = h.nx + 1) = False := eq_false (by omega)
  repeat (first
    | refine R_seq ?_ | refine R_region ?_ | refine R_nil ?_ | refine Q_seq ?_ | refine Q_norm ?_ | refine Q_seqr ?_ | refine Q_seqx ?_ | refine Q_bl ?_ | refine Q_blr ?_ | refine Q_blx ?_ | refine Q_blo rfl ?_ | refine R_block ?_ | refine R_skip ?_ | refine R_exit ?_ | refine R_ret ?_ | refine I_true ?_ | refine I_false ?_ | refine N_exit ?_ | refine N_ret ?_
    | ((first | apply R_op | apply R_op0)
       · ((repeat (first | simp (maxDischargeDepth := 9) only [RA, Nat.reduceEqDiff, Nat.reduceLT, Nat.reduceLeDiff, Nat.reduceAdd, Nat.reduceSub, Nat.reduceMul, Nat.reduceDiv, Nat.reduceMod, Nat.reducePow, Nat.reduceBEq, Nat.reduceGT, reduceIte, ho, hpe, hpe1, T93, T94, T103, T105] | simp (disch := first | assumption | omega) only [RV, ho, hpe, hpe1])) <;> rfl))
    | (apply R_cond
       · (simp only [RE, Nat.reduceEqDiff, Nat.reduceLT, Nat.reduceLeDiff, Nat.reduceBEq, reduceIte] <;> rfl))
    | (apply R_grd
       · (simp only [yieldedA, RY, Nat.reduceEqDiff, reduceIte] <;> rfl)))
  have e5 : N3 5#64 0#64 0#64 = 5 := rfl
  refine R_fn ?_ (add103 (q + 1) _ (h.nx + 1) w0 w1 w2 5#64 0#64 0#64 [] (by simp only [RH]; rfl) (by rw [e5]; unfold Q130 at hl; omega)) ?_
  · rfl
  intro v1 h1 ⟨⟨s0, s1, s2, o1, e1⟩, n1, f1⟩
  rw [e5] at e1
  simp only [RH] at n1
  have o0 : h1.obj h.nx = some (.row .rw 1 [w64 0#64, w64 0#64, w64 0#64]) := by
    have c1 : (h.nx = h.nx + 1) = False := eq_false (by omega)
    rw [f1 _ (by omega)]; simp only [RH, c1, reduceIte]; rfl
  have op1 : h1.obj p = some (.row .rw 1 (w64 w0 :: w64 w1 :: w64 w2 :: rest)) := by rw [f1 _ (by omega)]; simp only [RH, hpe, hpe1, reduceIte]; exact ho
  have F1 : Fr h.nx h h1 := ⟨by omega, fun r hr => by
    have c1 : (r = h.nx) = False := eq_false (by omega)
    have c2 : (r = h.nx + 1) = False := eq_false (by omega)
    rw [f1 r (by omega)]; simp only [RH, c1, c2, reduceIte]⟩
  have hm := rest_mod hl
  have c3 : (h.nx + 1 = h.nx) = False := eq_false (by omega)
  have c4 : (h.nx = h.nx + 1) = False := eq_false (by omega)
  by_cases hc : s2 >>> 2 = 0#64
  · have := (N3_top s0 s1 s2).1 hc
    repeat (first
      | refine R_seq ?_ | refine R_region ?_ | refine R_nil ?_ | refine Q_seq ?_ | refine Q_norm ?_ | refine Q_seqr ?_ | refine Q_seqx ?_ | refine Q_bl ?_ | refine Q_blr ?_ | refine Q_blx ?_ | refine Q_blo rfl ?_ | refine R_block ?_ | refine R_skip ?_ | refine R_exit ?_ | refine R_ret ?_ | refine I_true ?_ | refine I_false ?_ | refine N_exit ?_ | refine N_ret ?_
      | ((first | apply R_op | apply R_op0)
         · ((repeat (first | simp (maxDischargeDepth := 9) only [RA, Nat.reduceEqDiff, Nat.reduceLT, Nat.reduceLeDiff, Nat.reduceAdd, Nat.reduceSub, Nat.reduceMul, Nat.reduceDiv, Nat.reduceMod, Nat.reducePow, Nat.reduceBEq, Nat.reduceGT, reduceIte, o1, hc, show (2#64).toNat = 2 from rfl, o0, op1, hpe, hpe1, c3, c4, T93, T94, T103, T105] | simp (disch := first | assumption | omega) only [RV, o1, hc, show (2#64).toNat = 2 from rfl, o0, op1, hpe, hpe1, c3, c4])) <;> rfl))
      | (apply R_cond
         · (simp only [RE, Nat.reduceEqDiff, Nat.reduceLT, Nat.reduceLeDiff, Nat.reduceBEq, reduceIte] <;> rfl))
      | (apply R_grd
         · (simp only [yieldedA, RY, Nat.reduceEqDiff, reduceIte] <;> rfl)))
    (first | refine ⟨.inr rfl, ?_⟩ | refine ⟨.inl rfl, ?_⟩)
    simp only [evResultList, evResult, RA, Nat.reduceEqDiff, Nat.reduceLT, Nat.reduceLeDiff, Nat.reduceAdd, Nat.reduceSub, Nat.reduceMul, Nat.reduceDiv, Nat.reduceMod, Nat.reducePow, Nat.reduceBEq, Nat.reduceGT, reduceIte, o1, hc, o0, op1, hpe, hpe1, c3, c4, T93, T94, T103, T105]
    refine ⟨_, rfl, ?_⟩
    refine ⟨⟨w0, w1, w2, rfl, ?_⟩, F1.put (by omega) _⟩
    rw [hm, if_pos (by omega)]
  · have : ¬ N3 s0 s1 s2 < Q130 := fun hh => hc ((N3_top s0 s1 s2).2 hh)
    repeat (first
      | refine R_seq ?_ | refine R_region ?_ | refine R_nil ?_ | refine Q_seq ?_ | refine Q_norm ?_ | refine Q_seqr ?_ | refine Q_seqx ?_ | refine Q_bl ?_ | refine Q_blr ?_ | refine Q_blx ?_ | refine Q_blo rfl ?_ | refine R_block ?_ | refine R_skip ?_ | refine R_exit ?_ | refine R_ret ?_ | refine I_true ?_ | refine I_false ?_ | refine N_exit ?_ | refine N_ret ?_
      | (refine R_draw (by kernel_rfl) ?_)
      | ((first | apply R_op | apply R_op0)
         · ((repeat (first | simp (maxDischargeDepth := 9) only [RA, Nat.reduceEqDiff, Nat.reduceLT, Nat.reduceLeDiff, Nat.reduceAdd, Nat.reduceSub, Nat.reduceMul, Nat.reduceDiv, Nat.reduceMod, Nat.reducePow, Nat.reduceBEq, Nat.reduceGT, reduceIte, o1, hc, show (2#64).toNat = 2 from rfl, o0, op1, hpe, hpe1, c3, c4, T93, T94, T103, T105] | simp (disch := first | assumption | omega) only [RV, o1, hc, show (2#64).toNat = 2 from rfl, o0, op1, hpe, hpe1, c3, c4])) <;> rfl))
      | (apply R_cond
         · (simp only [RE, Nat.reduceEqDiff, Nat.reduceLT, Nat.reduceLeDiff, Nat.reduceBEq, reduceIte] <;> rfl))
      | (apply R_grd
         · (simp only [yieldedA, RY, Nat.reduceEqDiff, reduceIte] <;> rfl)))
    (first | refine ⟨.inr rfl, ?_⟩ | refine ⟨.inl rfl, ?_⟩)
    simp only [evResultList, evResult, RA, Nat.reduceEqDiff, Nat.reduceLT, Nat.reduceLeDiff, Nat.reduceAdd, Nat.reduceSub, Nat.reduceMul, Nat.reduceDiv, Nat.reduceMod, Nat.reducePow, Nat.reduceBEq, Nat.reduceGT, reduceIte, o1, hc, o0, op1, hpe, hpe1, c3, c4, T93, T94, T103, T105]
    refine ⟨_, rfl, ?_⟩
    refine ⟨⟨s0, s1, s2 &&& 3#64, rfl, ?_⟩, (F1.put (by omega) _).put (by omega) _⟩
    rw [hm, if_neg (by omega), N3_and, e1]
theorem inl65 : inlOf Try.prog 65 = true := by kernel_rfl
theorem iso65 : isoOf Try.prog 65 = true := by kernel_rfl
set_option maxRecDepth 20000 in
set_option maxHeartbeats 8000000 in
theorem clamp65 (q : Nat) (h : Heap) (k : List (BitVec 8)) (hk : k.length = 32) : fcall Try.prog (q + 2) (.func (.func 65) #[] #[]) [.agg ⟨b8 k⟩] h = some (.ok (.agg ⟨b8 (clampB k)⟩), h) := by
  rw [fcall_iso inl65 iso65]
  have : ∃ v h1, evF (cfg0 Try.prog) (q + 1 + 1) 65 [.agg ⟨b8 k⟩] ⟨fun _ => none, 0⟩ = some (.ok v, h1) ∧ v = .agg ⟨b8 (clampB k)⟩ := by
    rw [evF_eq Try.func65 rfl]
    apply evEnd_of_W
    simp only [Try.f65]
    have ht : (k.take 16).length = 16 := by simp; omega
    have hc := fun (kd : Kind) (es : Nat) => cutV16 kd es (show 16 ≤ k.length by omega)
    have hg : ∀ i, i < 16 → (k.take 16).getD i 0#8 = k.getD i 0#8 := fun i hi => by
      rw [List.getD_eq_getElem?_getD, List.getElem?_take, if_pos hi, ← List.getD_eq_getElem?_getD]
    generalize k.take 16 = L at ht hc hg
    have hp := fun (H : Heap) (p : Nat) => puts8 (h := H) (b := p) (es := 1) ht (List.length_replicate (n := 16) (a := 0#8))
    repeat (first
      | refine R_seq ?_ | refine R_region ?_ | refine R_nil ?_ | refine Q_seq ?_ | refine Q_norm ?_ | refine Q_seqr ?_ | refine Q_seqx ?_ | refine Q_bl ?_ | refine Q_blr ?_ | refine Q_blx ?_ | refine Q_blo rfl ?_ | refine R_block ?_ | refine R_skip ?_ | refine R_exit ?_ | refine R_ret ?_ | refine I_true ?_ | refine I_false ?_ | refine N_exit ?_ | refine N_ret ?_
      | ((first | apply R_op | apply R_op0)
         · ((repeat (first | simp (maxDischargeDepth := 9) only [RA, Nat.reduceEqDiff, Nat.reduceLT, Nat.reduceLeDiff, Nat.reduceAdd, Nat.reduceSub, Nat.reduceMul, Nat.reduceDiv, Nat.reduceMod, Nat.reducePow, Nat.reduceBEq, Nat.reduceGT, reduceIte, hk, arr56, hc, hp, ht, T3, T5, T30, T56] | simp (disch := first | assumption | omega) only [RV, hk, arr56, hc, hp, ht])) <;> rfl))
      | (apply R_cond
         · (simp only [RE, Nat.reduceEqDiff, Nat.reduceLT, Nat.reduceLeDiff, Nat.reduceBEq, reduceIte] <;> rfl))
      | (apply R_grd
         · (simp only [yieldedA, RY, Nat.reduceEqDiff, reduceIte] <;> rfl))
      | refine R_loop ?_ | refine R_iter (by decide) ?_)
    (first | refine ⟨.inr rfl, ?_⟩ | refine ⟨.inl rfl, ?_⟩)
    simp only [evResultList, evResult, RA, Nat.reduceEqDiff, Nat.reduceLT, Nat.reduceLeDiff, Nat.reduceAdd, Nat.reduceSub, Nat.reduceMul, Nat.reduceDiv, Nat.reduceMod, Nat.reducePow, Nat.reduceBEq, Nat.reduceGT, reduceIte, ht, T3, T5, T30, T56]
    refine ⟨_, rfl, ?_⟩
    have hcl : clampB k = (List.range 16).map fun i => clampAt i (L.getD i 0#8) := List.map_congr_left (fun i hi => by rw [hg i (List.mem_range.mp hi)])
    rw [hcl]
    clear hc hg hp hcl
    match L, ht with
    | [_, _, _, _, _, _, _, _, _, _, _, _, _, _, _, _], _ => rfl
  obtain ⟨v, h1, e1, rfl⟩ := this
  exact isoPhi_eq (by first | rfl | simp only [List.all_cons, List.all_nil, closed_agg8, closed_agg32, closed_w8, closed_w32, closed_w64, closed_iv, Bool.and_true]) (by first | rfl | simp only [closed_agg8, closed_agg32]) e1
end Go.Proofs.Ytfehhihllenjiaa
