/- The stream's functions: blocks. -/
import Derived.Test.YtfehhihllenjiaaFa
set_option linter.all false
namespace Go.Proofs.Ytfehhihllenjiaa
open Go.Proofs
attribute [local irreducible] evOps iter evD evF evC evLoad evStore evAlloc evIndexAddr evIndex evLenB evBox evBin evUn evConvert evExtract evSlice evAppend evCopy evNil evBuild Program.underlying

/-- A quarter of a round on four words of a block. -/
def qr (x : List (BitVec 32)) (a b c d : Nat) : List (BitVec 32) :=
  let q := quarter (x.getD a 0#32) (x.getD b 0#32) (x.getD c 0#32) (x.getD d 0#32)
  (((x.set a q.1).set b q.2.1).set c q.2.2.1).set d q.2.2.2
theorem qr_length (x : List (BitVec 32)) (a b c d : Nat) : (qr x a b c d).length = x.length := by simp [qr]

theorem inl90 : inlOf Try.prog 90 = true := by kernel_rfl
theorem iso90 : isoOf Try.prog 90 = false := by kernel_rfl
theorem quarter90 (n : Nat) (xs : List (BitVec 32)) (hx : xs.length = 16) (p a b c d : Nat) (ha : a < 16) (hb : b < 16) (hc : c < 16) (hd : d < 16) (h : Heap) (ho : h.obj p = some (.row .rw 1 (b32 xs))) :
    ∃ v h', fcall Try.prog (n + 4) (.func (.func 90) #[] #[]) [.pointer (some ⟨p, 0, none⟩), iv a, iv b, iv c, iv d] h = some (.ok v, h') ∧ h'.obj p = some (.row .rw 1 (b32 (qr xs a b c d))) ∧ (∀ q, q ≠ p → h'.obj q = h.obj q) ∧ h'.nx = h.nx := by
  rw [fcall_inl inl90 iso90, evF_eq Try.func90 rfl]
  apply evEnd_of_W
  simp only [Try.f90]
  repeat (first
    | refine R_seq ?_ | refine R_region ?_ | refine R_nil ?_ | refine Q_seq ?_ | refine Q_norm ?_ | refine Q_seqr ?_ | refine Q_seqx ?_ | refine Q_bl ?_ | refine Q_blr ?_ | refine Q_blx ?_ | refine Q_blo rfl ?_ | refine R_block ?_ | refine R_skip ?_ | refine R_exit ?_ | refine R_ret ?_ | refine I_true ?_ | refine I_false ?_ | refine N_exit ?_ | refine N_ret ?_
    | (refine R_draw (by kernel_rfl) ?_)
    | ((first | apply R_op | apply R_op0)
       · (first | (simp (maxDischargeDepth := 9) only [RA, Nat.reduceEqDiff, Nat.reduceLT, Nat.reduceLeDiff, Nat.reduceAdd, Nat.reduceSub, Nat.reduceMul, Nat.reduceDiv, Nat.reduceMod, Nat.reducePow, Nat.reduceBEq, Nat.reduceGT, reduceIte, T84, T22, ho, hx, ha, hb, hc, hd, quarter_ev, q4, T1, T2, T3] <;> rfl) | ((repeat (first | (simp (maxDischargeDepth := 9) only [RA, Nat.reduceEqDiff, Nat.reduceLT, Nat.reduceLeDiff, Nat.reduceAdd, Nat.reduceSub, Nat.reduceMul, Nat.reduceDiv, Nat.reduceMod, Nat.reducePow, Nat.reduceBEq, Nat.reduceGT, reduceIte, T84, T22, ho, hx, ha, hb, hc, hd, quarter_ev, q4, T1, T2, T3]; done) | simp (maxDischargeDepth := 9) only [RA, Nat.reduceEqDiff, Nat.reduceLT, Nat.reduceLeDiff, Nat.reduceAdd, Nat.reduceSub, Nat.reduceMul, Nat.reduceDiv, Nat.reduceMod, Nat.reducePow, Nat.reduceBEq, Nat.reduceGT, reduceIte, T84, T22, ho, hx, ha, hb, hc, hd, quarter_ev, q4, T1, T2, T3] | simp (disch := first | assumption | omega) only [RV, T84, T22, ho, hx, ha, hb, hc, hd, quarter_ev, q4, T1, T2, T3])) <;> rfl)))
    | (apply R_cond
       · (simp only [RE, Nat.reduceEqDiff, Nat.reduceLT, Nat.reduceLeDiff, Nat.reduceBEq, reduceIte] <;> rfl))
    | (apply R_grd
       · (simp only [yieldedA, RY, Nat.reduceEqDiff, reduceIte] <;> rfl)))
  refine ⟨.inl rfl, [], rfl, ?_, fun q hq => ?_, rfl⟩
  · simp only [obj_put, if_true]
    rfl
  · simp only [obj_put, hq, if_false]

theorem inl114 : inlOf Try.prog 114 = true := by kernel_rfl
theorem iso114 : isoOf Try.prog 114 = false := by kernel_rfl
/-- Four bytes as a word, the lowest first. -/
def le4 (a b c d : BitVec 8) : BitVec 32 := a.setWidth 32 ||| b.setWidth 32 <<< 8 ||| c.setWidth 32 <<< 16 ||| d.setWidth 32 <<< 24
theorem word114 (n : Nat) (p i c : Nat) (k : Kind) (xs : List (BitVec 8)) (hi : i + 4 ≤ xs.length) (h : Heap) (ho : h.obj p = some (.row k 1 (b8 xs))) :
    fcall Try.prog (n + 2) (.func (.func 114) #[] #[]) [.slice (some ⟨p, i, none⟩) 4 c] h = some (.ok (w32 (le4 (xs.getD i 0#8) (xs.getD (i + 1) 0#8) (xs.getD (i + 2) 0#8) (xs.getD (i + 3) 0#8))), h) := by
  rw [fcall_inl inl114 iso114, evF_eq Try.func114 rfl]
  have : ∃ v h1, evEnd Try.prog Try.f114.results.toList (evS Try.prog (2 ^ 64) (fcall Try.prog (n + 1)) none Try.f114.body.get! (envOf [.slice (some ⟨p, i, none⟩) 4 c]) h) = some (.ok v, h1) ∧ v = w32 (le4 (xs.getD i 0#8) (xs.getD (i + 1) 0#8) (xs.getD (i + 2) 0#8) (xs.getD (i + 3) 0#8)) ∧ h1 = h := by
    apply evEnd_of_W
    simp only [Try.f114, Option.get!]
    repeat (first
      | refine R_seq ?_ | refine R_region ?_ | refine R_nil ?_ | refine Q_seq ?_ | refine Q_norm ?_ | refine Q_seqr ?_ | refine Q_seqx ?_ | refine Q_bl ?_ | refine Q_blr ?_ | refine Q_blx ?_ | refine Q_blo rfl ?_ | refine R_block ?_ | refine R_skip ?_ | refine R_exit ?_ | refine R_ret ?_ | refine I_true ?_ | refine I_false ?_ | refine N_exit ?_ | refine N_ret ?_
      | (refine R_draw (by kernel_rfl) ?_)
      | ((first | apply R_op | apply R_op0)
         · (first | (simp (maxDischargeDepth := 9) only [RA, Nat.reduceEqDiff, Nat.reduceLT, Nat.reduceLeDiff, Nat.reduceAdd, Nat.reduceSub, Nat.reduceMul, Nat.reduceDiv, Nat.reduceMod, Nat.reducePow, Nat.reduceBEq, Nat.reduceGT, reduceIte, T38, T5, ho, cv8_32 Try.underlying5 Try.underlying22, T3, T22] <;> rfl) | ((repeat (first | (simp (maxDischargeDepth := 9) only [RA, Nat.reduceEqDiff, Nat.reduceLT, Nat.reduceLeDiff, Nat.reduceAdd, Nat.reduceSub, Nat.reduceMul, Nat.reduceDiv, Nat.reduceMod, Nat.reducePow, Nat.reduceBEq, Nat.reduceGT, reduceIte, T38, T5, ho, cv8_32 Try.underlying5 Try.underlying22, T3, T22]; done) | simp (maxDischargeDepth := 9) only [RA, Nat.reduceEqDiff, Nat.reduceLT, Nat.reduceLeDiff, Nat.reduceAdd, Nat.reduceSub, Nat.reduceMul, Nat.reduceDiv, Nat.reduceMod, Nat.reducePow, Nat.reduceBEq, Nat.reduceGT, reduceIte, T38, T5, ho, cv8_32 Try.underlying5 Try.underlying22, T3, T22] | simp (disch := first | assumption | omega) only [RV, T38, T5, ho, cv8_32 Try.underlying5 Try.underlying22, T3, T22])) <;> rfl)))
      | (apply R_cond
         · (simp only [RE, Nat.reduceEqDiff, Nat.reduceLT, Nat.reduceLeDiff, Nat.reduceBEq, reduceIte] <;> rfl))
      | (apply R_grd
         · (simp only [yieldedA, RY, Nat.reduceEqDiff, reduceIte] <;> rfl))
      | refine R_loop ?_ | refine R_iter (by decide) ?_)
    refine ⟨.inr rfl, _, rfl, ?_, rfl⟩
    simp only [packR, upd_apply, Nat.reduceEqDiff, if_true, if_false, reduceIte]
    unfold le4
    congr 1
    simp
  obtain ⟨v, h1, e1, rfl, rfl⟩ := this
  exact e1

theorem inl91 : inlOf Try.prog 91 = true := by kernel_rfl
theorem iso91 : isoOf Try.prog 91 = false := by kernel_rfl
theorem word91 (n : Nat) (p i c : Nat) (k : Kind) (xs : List (BitVec 8)) (hi : i + 4 ≤ xs.length) (h : Heap) (ho : h.obj p = some (.row k 1 (b8 xs))) :
    fcall Try.prog (n + 2) (.func (.func 91) #[] #[]) [.slice (some ⟨p, i, none⟩) 4 c] h = some (.ok (w32 (le4 (xs.getD i 0#8) (xs.getD (i + 1) 0#8) (xs.getD (i + 2) 0#8) (xs.getD (i + 3) 0#8))), h) := by
  rw [fcall_inl inl91 iso91, evF_eq Try.func91 rfl]
  have : ∃ v h1, evEnd Try.prog Try.f91.results.toList (evS Try.prog (2 ^ 64) (fcall Try.prog (n + 1)) none Try.f91.body.get! (envOf [.slice (some ⟨p, i, none⟩) 4 c]) h) = some (.ok v, h1) ∧ v = w32 (le4 (xs.getD i 0#8) (xs.getD (i + 1) 0#8) (xs.getD (i + 2) 0#8) (xs.getD (i + 3) 0#8)) ∧ h1 = h := by
    apply evEnd_of_W
    simp only [Try.f91, Option.get!]
    repeat (first
      | refine R_seq ?_ | refine R_region ?_ | refine R_nil ?_ | refine Q_seq ?_ | refine Q_norm ?_ | refine Q_seqr ?_ | refine Q_seqx ?_ | refine Q_bl ?_ | refine Q_blr ?_ | refine Q_blx ?_ | refine Q_blo rfl ?_ | refine R_block ?_ | refine R_skip ?_ | refine R_exit ?_ | refine R_ret ?_ | refine I_true ?_ | refine I_false ?_ | refine N_exit ?_ | refine N_ret ?_
      | (refine R_draw (by kernel_rfl) ?_)
      | ((first | apply R_op | apply R_op0)
         · (first | (simp (maxDischargeDepth := 9) only [RA, Nat.reduceEqDiff, Nat.reduceLT, Nat.reduceLeDiff, Nat.reduceAdd, Nat.reduceSub, Nat.reduceMul, Nat.reduceDiv, Nat.reduceMod, Nat.reducePow, Nat.reduceBEq, Nat.reduceGT, reduceIte, T38, T5, ho, cv8_32 Try.underlying5 Try.underlying22, T22, T94] <;> rfl) | ((repeat (first | (simp (maxDischargeDepth := 9) only [RA, Nat.reduceEqDiff, Nat.reduceLT, Nat.reduceLeDiff, Nat.reduceAdd, Nat.reduceSub, Nat.reduceMul, Nat.reduceDiv, Nat.reduceMod, Nat.reducePow, Nat.reduceBEq, Nat.reduceGT, reduceIte, T38, T5, ho, cv8_32 Try.underlying5 Try.underlying22, T22, T94]; done) | simp (maxDischargeDepth := 9) only [RA, Nat.reduceEqDiff, Nat.reduceLT, Nat.reduceLeDiff, Nat.reduceAdd, Nat.reduceSub, Nat.reduceMul, Nat.reduceDiv, Nat.reduceMod, Nat.reducePow, Nat.reduceBEq, Nat.reduceGT, reduceIte, T38, T5, ho, cv8_32 Try.underlying5 Try.underlying22, T22, T94] | simp (disch := first | assumption | omega) only [RV, T38, T5, ho, cv8_32 Try.underlying5 Try.underlying22, T22, T94])) <;> rfl)))
      | (apply R_cond
         · (simp only [RE, Nat.reduceEqDiff, Nat.reduceLT, Nat.reduceLeDiff, Nat.reduceBEq, reduceIte] <;> rfl))
      | (apply R_grd
         · (simp only [yieldedA, RY, Nat.reduceEqDiff, reduceIte] <;> rfl)))
    refine ⟨.inr rfl, _, rfl, ?_, rfl⟩
    rfl
  obtain ⟨v, h1, e1, rfl, rfl⟩ := this
  exact e1

/-- The words of a key, of a nonce. -/
def wordAt (xs : List (BitVec 8)) (i : Nat) : BitVec 32 := le4 (xs.getD i 0#8) (xs.getD (i + 1) 0#8) (xs.getD (i + 2) 0#8) (xs.getD (i + 3) 0#8)
def first (k n : List (BitVec 8)) (c : BitVec 32) : List (BitVec 32) :=
  [0x61707865#32, 0x3320646e#32, 0x79622d32#32, 0x6b206574#32, wordAt k 0, wordAt k 4, wordAt k 8, wordAt k 12, wordAt k 16, wordAt k 20, wordAt k 24, wordAt k 28, c, wordAt n 0, wordAt n 4, wordAt n 8]

theorem inl89 : inlOf Try.prog 89 = true := by kernel_rfl
theorem iso89 : isoOf Try.prog 89 = true := by kernel_rfl
set_option maxRecDepth 20000 in
set_option maxHeartbeats 8000000 in
theorem first89 (n : Nat) (k n' : List (BitVec 8)) (hk : k.length = 32) (hn : n'.length = 12) (c : BitVec 32) (h : Heap) : fcall Try.prog (n + 3) (.func (.func 89) #[] #[]) [.agg ⟨b8 k⟩, .agg ⟨b8 n'⟩, w32 c] h = some (.ok (.agg ⟨b32 (first k n' c)⟩), h) := by
  rw [fcall_iso inl89 iso89]
  have : ∃ v h1, evF (cfg0 Try.prog) (n + 2 + 1) 89 [.agg ⟨b8 k⟩, .agg ⟨b8 n'⟩, w32 c] ⟨fun _ => none, 0⟩ = some (.ok v, h1) ∧ v = (.agg ⟨b32 (first k n' c)⟩) := by
    rw [evF_eq Try.func89 rfl]
    apply evEnd_of_W
    simp only [Try.f89]
    repeat (first
      | refine R_seq ?_ | refine R_region ?_ | refine R_nil ?_ | refine Q_seq ?_ | refine Q_norm ?_ | refine Q_seqr ?_ | refine Q_seqx ?_ | refine Q_bl ?_ | refine Q_blr ?_ | refine Q_blx ?_ | refine Q_blo rfl ?_ | refine R_block ?_ | refine R_skip ?_ | refine R_exit ?_ | refine R_ret ?_ | refine I_true ?_ | refine I_false ?_ | refine N_exit ?_ | refine N_ret ?_
      | (refine R_draw (by kernel_rfl) ?_)
      | ((first | apply R_op | apply R_op0)
         · (first | (simp (maxDischargeDepth := 9) only [RA, Nat.reduceEqDiff, Nat.reduceLT, Nat.reduceLeDiff, Nat.reduceAdd, Nat.reduceSub, Nat.reduceMul, Nat.reduceDiv, Nat.reduceMod, Nat.reducePow, Nat.reduceBEq, Nat.reduceGT, reduceIte, T30, T32, T84, T22, T38, T5, hk, hn, slstr Try.underlying9, cv_str Try.underlying9 Try.underlying38 Try.underlying5, sbytes_length, T3, T9] <;> rfl) | ((repeat (first | (simp (maxDischargeDepth := 9) only [RA, Nat.reduceEqDiff, Nat.reduceLT, Nat.reduceLeDiff, Nat.reduceAdd, Nat.reduceSub, Nat.reduceMul, Nat.reduceDiv, Nat.reduceMod, Nat.reducePow, Nat.reduceBEq, Nat.reduceGT, reduceIte, T30, T32, T84, T22, T38, T5, hk, hn, slstr Try.underlying9, cv_str Try.underlying9 Try.underlying38 Try.underlying5, sbytes_length, T3, T9]; done) | simp (maxDischargeDepth := 9) only [RA, Nat.reduceEqDiff, Nat.reduceLT, Nat.reduceLeDiff, Nat.reduceAdd, Nat.reduceSub, Nat.reduceMul, Nat.reduceDiv, Nat.reduceMod, Nat.reducePow, Nat.reduceBEq, Nat.reduceGT, reduceIte, T30, T32, T84, T22, T38, T5, hk, hn, slstr Try.underlying9, cv_str Try.underlying9 Try.underlying38 Try.underlying5, sbytes_length, T3, T9] | simp (disch := first | assumption | omega) only [RV, T30, T32, T84, T22, T38, T5, hk, hn, slstr Try.underlying9, cv_str Try.underlying9 Try.underlying38 Try.underlying5, sbytes_length, T3, T9])) <;> rfl) | (simp only [op_call, ev_tmp, ev_const, ev_func, upd_apply, List.map_cons, List.map_nil, Nat.reduceEqDiff, if_true, if_false, reduceIte, lit_w8, lit_w32, lit_w64, lit_iv, T30, T32, T84, T22, T38, T5, hk, hn, slstr Try.underlying9, cv_str Try.underlying9 Try.underlying38 Try.underlying5, sbytes_length, T3, T9]; refine word114 _ _ _ _ ?_ ?_ ?_ _ ?_; rotate_right; (focus (first | assumption | ((simp only [RH, Nat.reduceAdd, Nat.reduceEqDiff, reduceIte, T30, T32, T84, T22, T38, T5, hk, hn, slstr Try.underlying9, cv_str Try.underlying9 Try.underlying38 Try.underlying5, sbytes_length, T3, T9]) <;> rfl) | rfl)); all_goals (first | assumption | omega | ((simp only [List.length_cons, List.length_nil, List.length_map, List.length_set, List.length_replicate, sbytes_length, Nat.reduceAdd, Nat.reduceLeDiff, Nat.reduceLT, T30, T32, T84, T22, T38, T5, hk, hn, slstr Try.underlying9, cv_str Try.underlying9 Try.underlying38 Try.underlying5, sbytes_length, T3, T9]) <;> first | done | omega | decide)))))
      | (apply R_cond
         · (simp only [RE, Nat.reduceEqDiff, Nat.reduceLT, Nat.reduceLeDiff, Nat.reduceBEq, reduceIte] <;> rfl))
      | (apply R_grd
         · (simp only [yieldedA, RY, Nat.reduceEqDiff, reduceIte] <;> rfl)))
    refine R_loop ?_
    (refine R_iterK (by decide) [0, 1, 2, 3, 4, 6, 7, 11] [0, 1, 2, 3] ?_; intro e1 h1 hK hO hM; simp only [List.map_cons, List.map_nil, List.cons.injEq, and_true, RH, Nat.reduceAdd, Nat.reduceEqDiff, reduceIte] at hK hM; simp only [List.map_cons, List.map_nil, List.cons.injEq, and_true, RH, Nat.reduceAdd, Nat.reduceEqDiff, reduceIte] at hO; obtain ⟨K0, K1, K2, K3, K4, K6, K7, K11⟩ := hK; obtain ⟨O0, O1, O2, O3⟩ := hO; have hN := hM)
    repeat (first
      | refine R_seq ?_ | refine R_region ?_ | refine R_nil ?_ | refine Q_seq ?_ | refine Q_norm ?_ | refine Q_seqr ?_ | refine Q_seqx ?_ | refine Q_bl ?_ | refine Q_blr ?_ | refine Q_blx ?_ | refine Q_blo rfl ?_ | refine R_block ?_ | refine R_skip ?_ | refine R_exit ?_ | refine R_ret ?_ | refine I_true ?_ | refine I_false ?_ | refine N_exit ?_ | refine N_ret ?_
      | (refine R_draw (by kernel_rfl) ?_)
      | ((first | apply R_op | apply R_op0)
         · (first | (simp (maxDischargeDepth := 9) only [RA, Nat.reduceEqDiff, Nat.reduceLT, Nat.reduceLeDiff, Nat.reduceAdd, Nat.reduceSub, Nat.reduceMul, Nat.reduceDiv, Nat.reduceMod, Nat.reducePow, Nat.reduceBEq, Nat.reduceGT, reduceIte, K0, K1, K2, K3, K4, K6, K7, K11, O0, O1, O2, O3, hN, T30, T32, T84, T22, T38, T5, hk, hn, slstr Try.underlying9, cv_str Try.underlying9 Try.underlying38 Try.underlying5, sbytes_length, T3, T9] <;> rfl) | ((repeat (first | (simp (maxDischargeDepth := 9) only [RA, Nat.reduceEqDiff, Nat.reduceLT, Nat.reduceLeDiff, Nat.reduceAdd, Nat.reduceSub, Nat.reduceMul, Nat.reduceDiv, Nat.reduceMod, Nat.reducePow, Nat.reduceBEq, Nat.reduceGT, reduceIte, K0, K1, K2, K3, K4, K6, K7, K11, O0, O1, O2, O3, hN, T30, T32, T84, T22, T38, T5, hk, hn, slstr Try.underlying9, cv_str Try.underlying9 Try.underlying38 Try.underlying5, sbytes_length, T3, T9]; done) | simp (maxDischargeDepth := 9) only [RA, Nat.reduceEqDiff, Nat.reduceLT, Nat.reduceLeDiff, Nat.reduceAdd, Nat.reduceSub, Nat.reduceMul, Nat.reduceDiv, Nat.reduceMod, Nat.reducePow, Nat.reduceBEq, Nat.reduceGT, reduceIte, K0, K1, K2, K3, K4, K6, K7, K11, O0, O1, O2, O3, hN, T30, T32, T84, T22, T38, T5, hk, hn, slstr Try.underlying9, cv_str Try.underlying9 Try.underlying38 Try.underlying5, sbytes_length, T3, T9] | simp (disch := first | assumption | omega) only [RV, K0, K1, K2, K3, K4, K6, K7, K11, O0, O1, O2, O3, hN, T30, T32, T84, T22, T38, T5, hk, hn, slstr Try.underlying9, cv_str Try.underlying9 Try.underlying38 Try.underlying5, sbytes_length, T3, T9])) <;> rfl) | (simp only [op_call, ev_tmp, ev_const, ev_func, upd_apply, List.map_cons, List.map_nil, Nat.reduceEqDiff, if_true, if_false, reduceIte, lit_w8, lit_w32, lit_w64, lit_iv, K0, K1, K2, K3, K4, K6, K7, K11, O0, O1, O2, O3, hN, T30, T32, T84, T22, T38, T5, hk, hn, slstr Try.underlying9, cv_str Try.underlying9 Try.underlying38 Try.underlying5, sbytes_length, T3, T9]; refine word114 _ _ _ _ ?_ ?_ ?_ _ ?_; rotate_right; (focus (first | assumption | ((simp only [RH, Nat.reduceAdd, Nat.reduceEqDiff, reduceIte, K0, K1, K2, K3, K4, K6, K7, K11, O0, O1, O2, O3, hN, T30, T32, T84, T22, T38, T5, hk, hn, slstr Try.underlying9, cv_str Try.underlying9 Try.underlying38 Try.underlying5, sbytes_length, T3, T9]) <;> rfl) | rfl)); all_goals (first | assumption | omega | ((simp only [List.length_cons, List.length_nil, List.length_map, List.length_set, List.length_replicate, sbytes_length, Nat.reduceAdd, Nat.reduceLeDiff, Nat.reduceLT, K0, K1, K2, K3, K4, K6, K7, K11, O0, O1, O2, O3, hN, T30, T32, T84, T22, T38, T5, hk, hn, slstr Try.underlying9, cv_str Try.underlying9 Try.underlying38 Try.underlying5, sbytes_length, T3, T9]) <;> first | done | omega | decide)))))
      | (apply R_cond
         · (simp only [RE, Nat.reduceEqDiff, Nat.reduceLT, Nat.reduceLeDiff, Nat.reduceBEq, reduceIte] <;> rfl))
      | (apply R_grd
         · (simp only [yieldedA, RY, Nat.reduceEqDiff, reduceIte] <;> rfl))
      | (refine R_iterK (by decide) [0, 1, 2, 3, 4, 6, 7, 11] [0, 1, 2, 3] ?_; intro e1 h1 hK hO hM; simp only [List.map_cons, List.map_nil, List.cons.injEq, and_true, RH, Nat.reduceAdd, Nat.reduceEqDiff, reduceIte, K0, K1, K2, K3, K4, K6, K7, K11, O0, O1, O2, O3, hN] at hK hM; simp only [List.map_cons, List.map_nil, List.cons.injEq, and_true, RH, Nat.reduceAdd, Nat.reduceEqDiff, reduceIte, K0, K1, K2, K3, K4, K6, K7, K11, O0, O1, O2, O3, hN] at hO; obtain ⟨K0, K1, K2, K3, K4, K6, K7, K11⟩ := hK; obtain ⟨O0, O1, O2, O3⟩ := hO; have hN := hM))
    refine R_loop ?_
    (refine R_iterK (by decide) [0, 1, 2, 3, 4, 6, 7, 25] [0, 1, 2, 3] ?_; intro e1 h1 hK hO hM; simp only [List.map_cons, List.map_nil, List.cons.injEq, and_true, RH, Nat.reduceAdd, Nat.reduceEqDiff, reduceIte, K0, K1, K2, K3, K4, K6, K7, K11, O0, O1, O2, O3, hN] at hK hM; simp only [List.map_cons, List.map_nil, List.cons.injEq, and_true, RH, Nat.reduceAdd, Nat.reduceEqDiff, reduceIte, K0, K1, K2, K3, K4, K6, K7, K11, O0, O1, O2, O3, hN] at hO; obtain ⟨K0, K1, K2, K3, K4, K6, K7, K25⟩ := hK; obtain ⟨O0, O1, O2, O3⟩ := hO; have hN := hM)
    repeat (first
      | refine R_seq ?_ | refine R_region ?_ | refine R_nil ?_ | refine Q_seq ?_ | refine Q_norm ?_ | refine Q_seqr ?_ | refine Q_seqx ?_ | refine Q_bl ?_ | refine Q_blr ?_ | refine Q_blx ?_ | refine Q_blo rfl ?_ | refine R_block ?_ | refine R_skip ?_ | refine R_exit ?_ | refine R_ret ?_ | refine I_true ?_ | refine I_false ?_ | refine N_exit ?_ | refine N_ret ?_
      | (refine R_draw (by kernel_rfl) ?_)
      | ((first | apply R_op | apply R_op0)
         · (first | (simp (maxDischargeDepth := 9) only [RA, Nat.reduceEqDiff, Nat.reduceLT, Nat.reduceLeDiff, Nat.reduceAdd, Nat.reduceSub, Nat.reduceMul, Nat.reduceDiv, Nat.reduceMod, Nat.reducePow, Nat.reduceBEq, Nat.reduceGT, reduceIte, K0, K1, K2, K3, K4, K6, K7, K25, O0, O1, O2, O3, hN, T30, T32, T84, T22, T38, T5, hk, hn, slstr Try.underlying9, cv_str Try.underlying9 Try.underlying38 Try.underlying5, sbytes_length, T3, T9] <;> rfl) | ((repeat (first | (simp (maxDischargeDepth := 9) only [RA, Nat.reduceEqDiff, Nat.reduceLT, Nat.reduceLeDiff, Nat.reduceAdd, Nat.reduceSub, Nat.reduceMul, Nat.reduceDiv, Nat.reduceMod, Nat.reducePow, Nat.reduceBEq, Nat.reduceGT, reduceIte, K0, K1, K2, K3, K4, K6, K7, K25, O0, O1, O2, O3, hN, T30, T32, T84, T22, T38, T5, hk, hn, slstr Try.underlying9, cv_str Try.underlying9 Try.underlying38 Try.underlying5, sbytes_length, T3, T9]; done) | simp (maxDischargeDepth := 9) only [RA, Nat.reduceEqDiff, Nat.reduceLT, Nat.reduceLeDiff, Nat.reduceAdd, Nat.reduceSub, Nat.reduceMul, Nat.reduceDiv, Nat.reduceMod, Nat.reducePow, Nat.reduceBEq, Nat.reduceGT, reduceIte, K0, K1, K2, K3, K4, K6, K7, K25, O0, O1, O2, O3, hN, T30, T32, T84, T22, T38, T5, hk, hn, slstr Try.underlying9, cv_str Try.underlying9 Try.underlying38 Try.underlying5, sbytes_length, T3, T9] | simp (disch := first | assumption | omega) only [RV, K0, K1, K2, K3, K4, K6, K7, K25, O0, O1, O2, O3, hN, T30, T32, T84, T22, T38, T5, hk, hn, slstr Try.underlying9, cv_str Try.underlying9 Try.underlying38 Try.underlying5, sbytes_length, T3, T9])) <;> rfl) | (simp only [op_call, ev_tmp, ev_const, ev_func, upd_apply, List.map_cons, List.map_nil, Nat.reduceEqDiff, if_true, if_false, reduceIte, lit_w8, lit_w32, lit_w64, lit_iv, K0, K1, K2, K3, K4, K6, K7, K25, O0, O1, O2, O3, hN, T30, T32, T84, T22, T38, T5, hk, hn, slstr Try.underlying9, cv_str Try.underlying9 Try.underlying38 Try.underlying5, sbytes_length, T3, T9]; refine word114 _ _ _ _ ?_ ?_ ?_ _ ?_; rotate_right; (focus (first | assumption | ((simp only [RH, Nat.reduceAdd, Nat.reduceEqDiff, reduceIte, K0, K1, K2, K3, K4, K6, K7, K25, O0, O1, O2, O3, hN, T30, T32, T84, T22, T38, T5, hk, hn, slstr Try.underlying9, cv_str Try.underlying9 Try.underlying38 Try.underlying5, sbytes_length, T3, T9]) <;> rfl) | rfl)); all_goals (first | assumption | omega | ((simp only [List.length_cons, List.length_nil, List.length_map, List.length_set, List.length_replicate, sbytes_length, Nat.reduceAdd, Nat.reduceLeDiff, Nat.reduceLT, K0, K1, K2, K3, K4, K6, K7, K25, O0, O1, O2, O3, hN, T30, T32, T84, T22, T38, T5, hk, hn, slstr Try.underlying9, cv_str Try.underlying9 Try.underlying38 Try.underlying5, sbytes_length, T3, T9]) <;> first | done | omega | decide)))))
      | (apply R_cond
         · (simp only [RE, Nat.reduceEqDiff, Nat.reduceLT, Nat.reduceLeDiff, Nat.reduceBEq, reduceIte] <;> rfl))
      | (apply R_grd
         · (simp only [yieldedA, RY, Nat.reduceEqDiff, reduceIte] <;> rfl))
      | (refine R_iterK (by decide) [0, 1, 2, 3, 4, 6, 7, 25] [0, 1, 2, 3] ?_; intro e1 h1 hK hO hM; simp only [List.map_cons, List.map_nil, List.cons.injEq, and_true, RH, Nat.reduceAdd, Nat.reduceEqDiff, reduceIte, K0, K1, K2, K3, K4, K6, K7, K25, O0, O1, O2, O3, hN] at hK hM; simp only [List.map_cons, List.map_nil, List.cons.injEq, and_true, RH, Nat.reduceAdd, Nat.reduceEqDiff, reduceIte, K0, K1, K2, K3, K4, K6, K7, K25, O0, O1, O2, O3, hN] at hO; obtain ⟨K0, K1, K2, K3, K4, K6, K7, K25⟩ := hK; obtain ⟨O0, O1, O2, O3⟩ := hO; have hN := hM))
    refine R_loop ?_
    (refine R_iterK (by decide) [0, 1, 2, 3, 4, 6, 7, 41] [0, 1, 2, 3] ?_; intro e1 h1 hK hO hM; simp only [List.map_cons, List.map_nil, List.cons.injEq, and_true, RH, Nat.reduceAdd, Nat.reduceEqDiff, reduceIte, K0, K1, K2, K3, K4, K6, K7, K25, O0, O1, O2, O3, hN] at hK hM; simp only [List.map_cons, List.map_nil, List.cons.injEq, and_true, RH, Nat.reduceAdd, Nat.reduceEqDiff, reduceIte, K0, K1, K2, K3, K4, K6, K7, K25, O0, O1, O2, O3, hN] at hO; obtain ⟨K0, K1, K2, K3, K4, K6, K7, K41⟩ := hK; obtain ⟨O0, O1, O2, O3⟩ := hO; have hN := hM)
    repeat (first
      | refine R_seq ?_ | refine R_region ?_ | refine R_nil ?_ | refine Q_seq ?_ | refine Q_norm ?_ | refine Q_seqr ?_ | refine Q_seqx ?_ | refine Q_bl ?_ | refine Q_blr ?_ | refine Q_blx ?_ | refine Q_blo rfl ?_ | refine R_block ?_ | refine R_skip ?_ | refine R_exit ?_ | refine R_ret ?_ | refine I_true ?_ | refine I_false ?_ | refine N_exit ?_ | refine N_ret ?_
      | (refine R_draw (by kernel_rfl) ?_)
      | ((first | apply R_op | apply R_op0)
         · (first | (simp (maxDischargeDepth := 9) only [RA, Nat.reduceEqDiff, Nat.reduceLT, Nat.reduceLeDiff, Nat.reduceAdd, Nat.reduceSub, Nat.reduceMul, Nat.reduceDiv, Nat.reduceMod, Nat.reducePow, Nat.reduceBEq, Nat.reduceGT, reduceIte, K0, K1, K2, K3, K4, K6, K7, K41, O0, O1, O2, O3, hN, T30, T32, T84, T22, T38, T5, hk, hn, slstr Try.underlying9, cv_str Try.underlying9 Try.underlying38 Try.underlying5, sbytes_length, T3, T9] <;> rfl) | ((repeat (first | (simp (maxDischargeDepth := 9) only [RA, Nat.reduceEqDiff, Nat.reduceLT, Nat.reduceLeDiff, Nat.reduceAdd, Nat.reduceSub, Nat.reduceMul, Nat.reduceDiv, Nat.reduceMod, Nat.reducePow, Nat.reduceBEq, Nat.reduceGT, reduceIte, K0, K1, K2, K3, K4, K6, K7, K41, O0, O1, O2, O3, hN, T30, T32, T84, T22, T38, T5, hk, hn, slstr Try.underlying9, cv_str Try.underlying9 Try.underlying38 Try.underlying5, sbytes_length, T3, T9]; done) | simp (maxDischargeDepth := 9) only [RA, Nat.reduceEqDiff, Nat.reduceLT, Nat.reduceLeDiff, Nat.reduceAdd, Nat.reduceSub, Nat.reduceMul, Nat.reduceDiv, Nat.reduceMod, Nat.reducePow, Nat.reduceBEq, Nat.reduceGT, reduceIte, K0, K1, K2, K3, K4, K6, K7, K41, O0, O1, O2, O3, hN, T30, T32, T84, T22, T38, T5, hk, hn, slstr Try.underlying9, cv_str Try.underlying9 Try.underlying38 Try.underlying5, sbytes_length, T3, T9] | simp (disch := first | assumption | omega) only [RV, K0, K1, K2, K3, K4, K6, K7, K41, O0, O1, O2, O3, hN, T30, T32, T84, T22, T38, T5, hk, hn, slstr Try.underlying9, cv_str Try.underlying9 Try.underlying38 Try.underlying5, sbytes_length, T3, T9])) <;> rfl) | (simp only [op_call, ev_tmp, ev_const, ev_func, upd_apply, List.map_cons, List.map_nil, Nat.reduceEqDiff, if_true, if_false, reduceIte, lit_w8, lit_w32, lit_w64, lit_iv, K0, K1, K2, K3, K4, K6, K7, K41, O0, O1, O2, O3, hN, T30, T32, T84, T22, T38, T5, hk, hn, slstr Try.underlying9, cv_str Try.underlying9 Try.underlying38 Try.underlying5, sbytes_length, T3, T9]; refine word114 _ _ _ _ ?_ ?_ ?_ _ ?_; rotate_right; (focus (first | assumption | ((simp only [RH, Nat.reduceAdd, Nat.reduceEqDiff, reduceIte, K0, K1, K2, K3, K4, K6, K7, K41, O0, O1, O2, O3, hN, T30, T32, T84, T22, T38, T5, hk, hn, slstr Try.underlying9, cv_str Try.underlying9 Try.underlying38 Try.underlying5, sbytes_length, T3, T9]) <;> rfl) | rfl)); all_goals (first | assumption | omega | ((simp only [List.length_cons, List.length_nil, List.length_map, List.length_set, List.length_replicate, sbytes_length, Nat.reduceAdd, Nat.reduceLeDiff, Nat.reduceLT, K0, K1, K2, K3, K4, K6, K7, K41, O0, O1, O2, O3, hN, T30, T32, T84, T22, T38, T5, hk, hn, slstr Try.underlying9, cv_str Try.underlying9 Try.underlying38 Try.underlying5, sbytes_length, T3, T9]) <;> first | done | omega | decide)))))
      | (apply R_cond
         · (simp only [RE, Nat.reduceEqDiff, Nat.reduceLT, Nat.reduceLeDiff, Nat.reduceBEq, reduceIte] <;> rfl))
      | (apply R_grd
         · (simp only [yieldedA, RY, Nat.reduceEqDiff, reduceIte] <;> rfl))
      | (refine R_iterK (by decide) [0, 1, 2, 3, 4, 6, 7, 41] [0, 1, 2, 3] ?_; intro e1 h1 hK hO hM; simp only [List.map_cons, List.map_nil, List.cons.injEq, and_true, RH, Nat.reduceAdd, Nat.reduceEqDiff, reduceIte, K0, K1, K2, K3, K4, K6, K7, K41, O0, O1, O2, O3, hN] at hK hM; simp only [List.map_cons, List.map_nil, List.cons.injEq, and_true, RH, Nat.reduceAdd, Nat.reduceEqDiff, reduceIte, K0, K1, K2, K3, K4, K6, K7, K41, O0, O1, O2, O3, hN] at hO; obtain ⟨K0, K1, K2, K3, K4, K6, K7, K41⟩ := hK; obtain ⟨O0, O1, O2, O3⟩ := hO; have hN := hM))
    (first | refine ⟨.inr rfl, ?_⟩ | refine ⟨.inl rfl, ?_⟩)
    simp only [evResultList, evResult, RA, Nat.reduceEqDiff, Nat.reduceLT, Nat.reduceLeDiff, Nat.reduceAdd, Nat.reduceSub, Nat.reduceMul, Nat.reduceDiv, Nat.reduceMod, Nat.reducePow, Nat.reduceBEq, Nat.reduceGT, reduceIte, K6, K7, O2, O3, T84, hN, T3, T9, T22, T30, T32, T38]
    refine ⟨_, rfl, ?_⟩
    refine congrArg (fun l => Value.agg ⟨b32 l⟩) ?_
    kernel_rfl
  obtain ⟨v, h1, e1, rfl⟩ := this
  exact isoPhi_eq (by first | rfl | simp only [List.all_cons, List.all_nil, closed_agg8, closed_agg32, closed_w8, closed_w32, closed_w64, closed_iv, Bool.and_true]) (by first | rfl | simp only [closed_agg8, closed_agg32]) e1
end Go.Proofs.Ytfehhihllenjiaa
