/- The stream's functions: a block of the stream. -/
import Derived.Test.YtfehhihllenjiaaFb
set_option linter.all false
namespace Go.Proofs.Ytfehhihllenjiaa
open Go.Proofs
attribute [local irreducible] evOps iter evD evF evC evLoad evStore evAlloc evIndexAddr evIndex evLenB evBox evBin evUn evConvert evExtract evSlice evAppend evCopy evNil evBuild Program.underlying

def whs : List (Nat × Nat × Nat × Nat) := [(0, 4, 8, 12), (1, 5, 9, 13), (2, 6, 10, 14), (3, 7, 11, 15), (0, 5, 10, 15), (1, 6, 11, 12), (2, 7, 8, 13), (3, 4, 9, 14)]
def stepq (x : List (BitVec 32)) (j : Nat) : List (BitVec 32) :=
  let w := whs.getD (j % 8) (0, 0, 0, 0)
  qr x w.1 w.2.1 w.2.2.1 w.2.2.2
def rounds (n : Nat) (x : List (BitVec 32)) : List (BitVec 32) := (List.range n).foldl stepq x
theorem rounds_succ (n : Nat) (x : List (BitVec 32)) : rounds (n + 1) x = stepq (rounds n x) n := by simp [rounds, List.range_succ]
theorem rounds_zero (x : List (BitVec 32)) : rounds 0 x = x := rfl
theorem rounds_length (n : Nat) (x : List (BitVec 32)) : (rounds n x).length = x.length := by
  induction n with
  | zero => rfl
  | succ n ih => rw [rounds_succ, stepq, qr_length, ih]
def outAt (x s : List (BitVec 32)) (m : Nat) : BitVec 8 := ((x.getD (m / 4) 0#32 + s.getD (m / 4) 0#32) >>> (8 * (m % 4))).setWidth 8
def outBytes (x s : List (BitVec 32)) : List (BitVec 8) := (List.range 64).map (outAt x s)
def block (k n : List (BitVec 8)) (c : BitVec 32) : List (BitVec 8) := outBytes (rounds 80 (first k n c)) (first k n c)
theorem block_length (k n : List (BitVec 8)) (c : BitVec 32) : (block k n c).length = 64 := by simp [block, outBytes]
/-- A row that is filled from its beginning on. -/
def filled {α : Type} (f : Nat → α) (z : α) (n k : Nat) : List α := (List.range k).map f ++ List.replicate (n - k) z
theorem filled_zero {α : Type} (f : Nat → α) (z : α) (n : Nat) : filled f z n 0 = List.replicate n z := rfl
theorem filled_full {α : Type} (f : Nat → α) (z : α) (n : Nat) : filled f z n n = (List.range n).map f := by simp [filled]
theorem filled_length {α : Type} (f : Nat → α) (z : α) {n k : Nat} (h : k ≤ n) : (filled f z n k).length = n := by simp [filled]; omega
theorem filled_set {α : Type} (f : Nat → α) (z : α) {n k : Nat} (h : k < n) : (filled f z n k).set k (f k) = filled f z n (k + 1) := by
  unfold filled
  have e1 : n - k = (n - (k + 1)) + 1 := by omega
  rw [e1, List.replicate_succ, List.range_succ, List.map_append, List.append_assoc]
  rw [List.set_append_right _ _ (by simp)]
  simp

theorem bu83 (a b c d : BitVec 32) : evBuild Try.prog 83 [(0, w32 a), (1, w32 b), (2, w32 c), (3, w32 d)] = some (.agg ⟨b32 [a, b, c, d, 0#32, 0#32, 0#32, 0#32, 0#32, 0#32, 0#32, 0#32, 0#32, 0#32, 0#32, 0#32]⟩) := by kernel_rfl
theorem bu88 (a b c d : Nat) : evBuild Try.prog 88 [(0, iv a), (1, iv b), (2, iv c), (3, iv d)] = some (.agg ⟨[iv a, iv b, iv c, iv d]⟩) := by kernel_rfl
def whCells : List Value := (whs.map fun w => [iv w.1, iv w.2.1, iv w.2.2.1, iv w.2.2.2]).flatten
theorem bu89 : evBuild Try.prog 89 [(0, .agg ⟨[iv 0, iv 4, iv 8, iv 12]⟩), (1, .agg ⟨[iv 1, iv 5, iv 9, iv 13]⟩), (2, .agg ⟨[iv 2, iv 6, iv 10, iv 14]⟩), (3, .agg ⟨[iv 3, iv 7, iv 11, iv 15]⟩), (4, .agg ⟨[iv 0, iv 5, iv 10, iv 15]⟩), (5, .agg ⟨[iv 1, iv 6, iv 11, iv 12]⟩), (6, .agg ⟨[iv 2, iv 7, iv 8, iv 13]⟩), (7, .agg ⟨[iv 3, iv 4, iv 9, iv 14]⟩)] = some (.agg ⟨whCells⟩) := by kernel_rfl
theorem putWh {h : Heap} {b : Nat} {cs : List Value} (hl : cs.length = 32) : putV h b 0 32 whCells (some (.row .rw 1 cs)) = some (h.put b (some (.row .rw 1 whCells))) := by
  refine (putV_rw (n := 32) (vs := whCells) rfl (by omega) rfl).trans ?_
  have := setAt_full whCells cs [] (by rw [hl]; rfl)
  simp only [List.nil_append, List.length_nil] at this
  rw [this]

theorem cutWh0 : cutV (some (.row .rw 1 whCells)) 0 4 = some (.agg ⟨[iv 0, iv 4, iv 8, iv 12]⟩) := rfl
theorem cutWh1 : cutV (some (.row .rw 1 whCells)) 4 4 = some (.agg ⟨[iv 1, iv 5, iv 9, iv 13]⟩) := rfl
theorem cutWh2 : cutV (some (.row .rw 1 whCells)) 8 4 = some (.agg ⟨[iv 2, iv 6, iv 10, iv 14]⟩) := rfl
theorem cutWh3 : cutV (some (.row .rw 1 whCells)) 12 4 = some (.agg ⟨[iv 3, iv 7, iv 11, iv 15]⟩) := rfl
theorem cutWh4 : cutV (some (.row .rw 1 whCells)) 16 4 = some (.agg ⟨[iv 0, iv 5, iv 10, iv 15]⟩) := rfl
theorem cutWh5 : cutV (some (.row .rw 1 whCells)) 20 4 = some (.agg ⟨[iv 1, iv 6, iv 11, iv 12]⟩) := rfl
theorem cutWh6 : cutV (some (.row .rw 1 whCells)) 24 4 = some (.agg ⟨[iv 2, iv 7, iv 8, iv 13]⟩) := rfl
theorem cutWh7 : cutV (some (.row .rw 1 whCells)) 28 4 = some (.agg ⟨[iv 3, iv 4, iv 9, iv 14]⟩) := rfl
theorem put88 {h : Heap} {p a b c d : Nat} : putV h p 0 4 [iv a, iv b, iv c, iv d] (some (.row .rw 1 (List.replicate 4 (iv 0)))) = some (h.put p (some (.row .rw 1 [iv a, iv b, iv c, iv d]))) := (putV_rw (n := 4) rfl (by decide) rfl).trans rfl

theorem inl46 : inlOf Try.prog 46 = true := by kernel_rfl
theorem iso46 : isoOf Try.prog 46 = true := by kernel_rfl
set_option maxRecDepth 20000 in
set_option maxHeartbeats 8000000 in
theorem block46 (n : Nat) (k n' : List (BitVec 8)) (hk : k.length = 32) (hn : n'.length = 12) (c : BitVec 32) (h : Heap) : fcall Try.prog (n + 5) (.func (.func 46) #[] #[]) [.agg ⟨b8 k⟩, .agg ⟨b8 n'⟩, w32 c] h = some (.ok (.agg ⟨b8 (block k n' c)⟩), h) := by
  rw [fcall_iso inl46 iso46]
  have : ∃ v h1, evF (cfg0 Try.prog) (n + 4 + 1) 46 [.agg ⟨b8 k⟩, .agg ⟨b8 n'⟩, w32 c] ⟨fun _ => none, 0⟩ = some (.ok v, h1) ∧ v = (.agg ⟨b8 (block k n' c)⟩) := by
    rw [evF_eq Try.func46 rfl]
    apply evEnd_of_W
    simp only [Try.f46]
    repeat (first
      | refine R_seq ?_ | refine R_region ?_ | refine R_nil ?_ | refine Q_seq ?_ | refine Q_norm ?_ | refine Q_seqr ?_ | refine Q_seqx ?_ | refine Q_bl ?_ | refine Q_blr ?_ | refine Q_blx ?_ | refine Q_blo rfl ?_ | refine R_block ?_ | refine R_skip ?_ | refine R_exit ?_ | refine R_ret ?_ | refine I_true ?_ | refine I_false ?_ | refine N_exit ?_ | refine N_ret ?_
      | (refine R_draw (by kernel_rfl) ?_)
      | ((first | apply R_op | apply R_op0)
         · (first | (simp (maxDischargeDepth := 9) only [RA, Nat.reduceEqDiff, Nat.reduceLT, Nat.reduceLeDiff, Nat.reduceAdd, Nat.reduceSub, Nat.reduceMul, Nat.reduceDiv, Nat.reduceMod, Nat.reducePow, Nat.reduceBEq, Nat.reduceGT, reduceIte, T30, T32, T33, T83, T88, T89, T22, T38, T5, T3, hk, hn, bu83, bu88, bu89, putWh, T1, T2, cv32_8 Try.underlying22 Try.underlying5] <;> rfl) | ((repeat (first | (simp (maxDischargeDepth := 9) only [RA, Nat.reduceEqDiff, Nat.reduceLT, Nat.reduceLeDiff, Nat.reduceAdd, Nat.reduceSub, Nat.reduceMul, Nat.reduceDiv, Nat.reduceMod, Nat.reducePow, Nat.reduceBEq, Nat.reduceGT, reduceIte, T30, T32, T33, T83, T88, T89, T22, T38, T5, T3, hk, hn, bu83, bu88, bu89, putWh, T1, T2, cv32_8 Try.underlying22 Try.underlying5]; done) | simp (maxDischargeDepth := 9) only [RA, Nat.reduceEqDiff, Nat.reduceLT, Nat.reduceLeDiff, Nat.reduceAdd, Nat.reduceSub, Nat.reduceMul, Nat.reduceDiv, Nat.reduceMod, Nat.reducePow, Nat.reduceBEq, Nat.reduceGT, reduceIte, T30, T32, T33, T83, T88, T89, T22, T38, T5, T3, hk, hn, bu83, bu88, bu89, putWh, T1, T2, cv32_8 Try.underlying22 Try.underlying5] | simp (disch := first | assumption | omega) only [RV, T30, T32, T33, T83, T88, T89, T22, T38, T5, T3, hk, hn, bu83, bu88, bu89, putWh, T1, T2, cv32_8 Try.underlying22 Try.underlying5])) <;> rfl) | (simp only [op_call, ev_tmp, ev_const, ev_func, upd_apply, List.map_cons, List.map_nil, Nat.reduceEqDiff, if_true, if_false, reduceIte, lit_w8, lit_w32, lit_w64, lit_iv, T30, T32, T33, T83, T88, T89, T22, T38, T5, T3, hk, hn, bu83, bu88, bu89, putWh, T1, T2, cv32_8 Try.underlying22 Try.underlying5]; refine word91 _ _ _ _ ?_ ?_ ?_ _ ?_; rotate_right; (focus (first | assumption | ((simp only [RH, Nat.reduceAdd, Nat.reduceEqDiff, reduceIte, T30, T32, T33, T83, T88, T89, T22, T38, T5, T3, hk, hn, bu83, bu88, bu89, putWh, T1, T2, cv32_8 Try.underlying22 Try.underlying5]) <;> rfl) | rfl)); all_goals (first | assumption | omega | ((simp only [List.length_cons, List.length_nil, List.length_map, List.length_set, List.length_replicate, sbytes_length, Nat.reduceAdd, Nat.reduceLeDiff, Nat.reduceLT, T30, T32, T33, T83, T88, T89, T22, T38, T5, T3, hk, hn, bu83, bu88, bu89, putWh, T1, T2, cv32_8 Try.underlying22 Try.underlying5]) <;> first | done | omega | decide)))))
      | (apply R_cond
         · (simp only [RE, Nat.reduceEqDiff, Nat.reduceLT, Nat.reduceLeDiff, Nat.reduceBEq, reduceIte] <;> rfl))
      | (apply R_grd
         · (simp only [yieldedA, RY, Nat.reduceEqDiff, reduceIte] <;> rfl)))
    refine R_loop ?_
    (refine R_iterK (by decide) [0, 1, 2, 3, 4, 6, 7, 8] [0, 1, 2, 3] ?_; intro e1 h1 hK hO hM; simp only [List.map_cons, List.map_nil, List.cons.injEq, and_true, RH, Nat.reduceAdd, Nat.reduceEqDiff, reduceIte] at hK hM; simp only [List.map_cons, List.map_nil, List.cons.injEq, and_true, RH, Nat.reduceAdd, Nat.reduceEqDiff, reduceIte] at hO; obtain ⟨K0, K1, K2, K3, K4, K6, K7, K8⟩ := hK; obtain ⟨O0, O1, O2, O3⟩ := hO; have hN := hM)
    repeat (first
      | refine R_seq ?_ | refine R_region ?_ | refine R_nil ?_ | refine Q_seq ?_ | refine Q_norm ?_ | refine Q_seqr ?_ | refine Q_seqx ?_ | refine Q_bl ?_ | refine Q_blr ?_ | refine Q_blx ?_ | refine Q_blo rfl ?_ | refine R_block ?_ | refine R_skip ?_ | refine R_exit ?_ | refine R_ret ?_ | refine I_true ?_ | refine I_false ?_ | refine N_exit ?_ | refine N_ret ?_
      | (refine R_draw (by kernel_rfl) ?_)
      | ((first | apply R_op | apply R_op0)
         · (first | (simp (maxDischargeDepth := 9) only [RA, Nat.reduceEqDiff, Nat.reduceLT, Nat.reduceLeDiff, Nat.reduceAdd, Nat.reduceSub, Nat.reduceMul, Nat.reduceDiv, Nat.reduceMod, Nat.reducePow, Nat.reduceBEq, Nat.reduceGT, reduceIte, K0, K1, K2, K3, K4, K6, K7, K8, O0, O1, O2, O3, hN, T30, T32, T33, T83, T88, T89, T22, T38, T5, T3, hk, hn, bu83, bu88, bu89, putWh, T1, T2, cv32_8 Try.underlying22 Try.underlying5] <;> rfl) | ((repeat (first | (simp (maxDischargeDepth := 9) only [RA, Nat.reduceEqDiff, Nat.reduceLT, Nat.reduceLeDiff, Nat.reduceAdd, Nat.reduceSub, Nat.reduceMul, Nat.reduceDiv, Nat.reduceMod, Nat.reducePow, Nat.reduceBEq, Nat.reduceGT, reduceIte, K0, K1, K2, K3, K4, K6, K7, K8, O0, O1, O2, O3, hN, T30, T32, T33, T83, T88, T89, T22, T38, T5, T3, hk, hn, bu83, bu88, bu89, putWh, T1, T2, cv32_8 Try.underlying22 Try.underlying5]; done) | simp (maxDischargeDepth := 9) only [RA, Nat.reduceEqDiff, Nat.reduceLT, Nat.reduceLeDiff, Nat.reduceAdd, Nat.reduceSub, Nat.reduceMul, Nat.reduceDiv, Nat.reduceMod, Nat.reducePow, Nat.reduceBEq, Nat.reduceGT, reduceIte, K0, K1, K2, K3, K4, K6, K7, K8, O0, O1, O2, O3, hN, T30, T32, T33, T83, T88, T89, T22, T38, T5, T3, hk, hn, bu83, bu88, bu89, putWh, T1, T2, cv32_8 Try.underlying22 Try.underlying5] | simp (disch := first | assumption | omega) only [RV, K0, K1, K2, K3, K4, K6, K7, K8, O0, O1, O2, O3, hN, T30, T32, T33, T83, T88, T89, T22, T38, T5, T3, hk, hn, bu83, bu88, bu89, putWh, T1, T2, cv32_8 Try.underlying22 Try.underlying5])) <;> rfl) | (simp only [op_call, ev_tmp, ev_const, ev_func, upd_apply, List.map_cons, List.map_nil, Nat.reduceEqDiff, if_true, if_false, reduceIte, lit_w8, lit_w32, lit_w64, lit_iv, K0, K1, K2, K3, K4, K6, K7, K8, O0, O1, O2, O3, hN, T30, T32, T33, T83, T88, T89, T22, T38, T5, T3, hk, hn, bu83, bu88, bu89, putWh, T1, T2, cv32_8 Try.underlying22 Try.underlying5]; refine word91 _ _ _ _ ?_ ?_ ?_ _ ?_; rotate_right; (focus (first | assumption | ((simp only [RH, Nat.reduceAdd, Nat.reduceEqDiff, reduceIte, K0, K1, K2, K3, K4, K6, K7, K8, O0, O1, O2, O3, hN, T30, T32, T33, T83, T88, T89, T22, T38, T5, T3, hk, hn, bu83, bu88, bu89, putWh, T1, T2, cv32_8 Try.underlying22 Try.underlying5]) <;> rfl) | rfl)); all_goals (first | assumption | omega | ((simp only [List.length_cons, List.length_nil, List.length_map, List.length_set, List.length_replicate, sbytes_length, Nat.reduceAdd, Nat.reduceLeDiff, Nat.reduceLT, K0, K1, K2, K3, K4, K6, K7, K8, O0, O1, O2, O3, hN, T30, T32, T33, T83, T88, T89, T22, T38, T5, T3, hk, hn, bu83, bu88, bu89, putWh, T1, T2, cv32_8 Try.underlying22 Try.underlying5]) <;> first | done | omega | decide)))))
      | (apply R_cond
         · (simp only [RE, Nat.reduceEqDiff, Nat.reduceLT, Nat.reduceLeDiff, Nat.reduceBEq, reduceIte] <;> rfl))
      | (apply R_grd
         · (simp only [yieldedA, RY, Nat.reduceEqDiff, reduceIte] <;> rfl))
      | (refine R_iterK (by decide) [0, 1, 2, 3, 4, 6, 7, 8] [0, 1, 2, 3] ?_; intro e1 h1 hK hO hM; simp only [List.map_cons, List.map_nil, List.cons.injEq, and_true, RH, Nat.reduceAdd, Nat.reduceEqDiff, reduceIte, K0, K1, K2, K3, K4, K6, K7, K8, O0, O1, O2, O3, hN] at hK hM; simp only [List.map_cons, List.map_nil, List.cons.injEq, and_true, RH, Nat.reduceAdd, Nat.reduceEqDiff, reduceIte, K0, K1, K2, K3, K4, K6, K7, K8, O0, O1, O2, O3, hN] at hO; obtain ⟨K0, K1, K2, K3, K4, K6, K7, K8⟩ := hK; obtain ⟨O0, O1, O2, O3⟩ := hO; have hN := hM))
    refine R_loop ?_
    (refine R_iterK (by decide) [0, 1, 2, 3, 4, 6, 7, 9] [0, 1, 2, 3] ?_; intro e1 h1 hK hO hM; simp only [List.map_cons, List.map_nil, List.cons.injEq, and_true, RH, Nat.reduceAdd, Nat.reduceEqDiff, reduceIte, K0, K1, K2, K3, K4, K6, K7, K8, O0, O1, O2, O3, hN] at hK hM; simp only [List.map_cons, List.map_nil, List.cons.injEq, and_true, RH, Nat.reduceAdd, Nat.reduceEqDiff, reduceIte, K0, K1, K2, K3, K4, K6, K7, K8, O0, O1, O2, O3, hN] at hO; obtain ⟨K0, K1, K2, K3, K4, K6, K7, K9⟩ := hK; obtain ⟨O0, O1, O2, O3⟩ := hO; have hN := hM)
    repeat (first
      | refine R_seq ?_ | refine R_region ?_ | refine R_nil ?_ | refine Q_seq ?_ | refine Q_norm ?_ | refine Q_seqr ?_ | refine Q_seqx ?_ | refine Q_bl ?_ | refine Q_blr ?_ | refine Q_blx ?_ | refine Q_blo rfl ?_ | refine R_block ?_ | refine R_skip ?_ | refine R_exit ?_ | refine R_ret ?_ | refine I_true ?_ | refine I_false ?_ | refine N_exit ?_ | refine N_ret ?_
      | (refine R_draw (by kernel_rfl) ?_)
      | ((first | apply R_op | apply R_op0)
         · (first | (simp (maxDischargeDepth := 9) only [RA, Nat.reduceEqDiff, Nat.reduceLT, Nat.reduceLeDiff, Nat.reduceAdd, Nat.reduceSub, Nat.reduceMul, Nat.reduceDiv, Nat.reduceMod, Nat.reducePow, Nat.reduceBEq, Nat.reduceGT, reduceIte, K0, K1, K2, K3, K4, K6, K7, K9, O0, O1, O2, O3, hN, T30, T32, T33, T83, T88, T89, T22, T38, T5, T3, hk, hn, bu83, bu88, bu89, putWh, T1, T2, cv32_8 Try.underlying22 Try.underlying5] <;> rfl) | ((repeat (first | (simp (maxDischargeDepth := 9) only [RA, Nat.reduceEqDiff, Nat.reduceLT, Nat.reduceLeDiff, Nat.reduceAdd, Nat.reduceSub, Nat.reduceMul, Nat.reduceDiv, Nat.reduceMod, Nat.reducePow, Nat.reduceBEq, Nat.reduceGT, reduceIte, K0, K1, K2, K3, K4, K6, K7, K9, O0, O1, O2, O3, hN, T30, T32, T33, T83, T88, T89, T22, T38, T5, T3, hk, hn, bu83, bu88, bu89, putWh, T1, T2, cv32_8 Try.underlying22 Try.underlying5]; done) | simp (maxDischargeDepth := 9) only [RA, Nat.reduceEqDiff, Nat.reduceLT, Nat.reduceLeDiff, Nat.reduceAdd, Nat.reduceSub, Nat.reduceMul, Nat.reduceDiv, Nat.reduceMod, Nat.reducePow, Nat.reduceBEq, Nat.reduceGT, reduceIte, K0, K1, K2, K3, K4, K6, K7, K9, O0, O1, O2, O3, hN, T30, T32, T33, T83, T88, T89, T22, T38, T5, T3, hk, hn, bu83, bu88, bu89, putWh, T1, T2, cv32_8 Try.underlying22 Try.underlying5] | simp (disch := first | assumption | omega) only [RV, K0, K1, K2, K3, K4, K6, K7, K9, O0, O1, O2, O3, hN, T30, T32, T33, T83, T88, T89, T22, T38, T5, T3, hk, hn, bu83, bu88, bu89, putWh, T1, T2, cv32_8 Try.underlying22 Try.underlying5])) <;> rfl) | (simp only [op_call, ev_tmp, ev_const, ev_func, upd_apply, List.map_cons, List.map_nil, Nat.reduceEqDiff, if_true, if_false, reduceIte, lit_w8, lit_w32, lit_w64, lit_iv, K0, K1, K2, K3, K4, K6, K7, K9, O0, O1, O2, O3, hN, T30, T32, T33, T83, T88, T89, T22, T38, T5, T3, hk, hn, bu83, bu88, bu89, putWh, T1, T2, cv32_8 Try.underlying22 Try.underlying5]; refine word91 _ _ _ _ ?_ ?_ ?_ _ ?_; rotate_right; (focus (first | assumption | ((simp only [RH, Nat.reduceAdd, Nat.reduceEqDiff, reduceIte, K0, K1, K2, K3, K4, K6, K7, K9, O0, O1, O2, O3, hN, T30, T32, T33, T83, T88, T89, T22, T38, T5, T3, hk, hn, bu83, bu88, bu89, putWh, T1, T2, cv32_8 Try.underlying22 Try.underlying5]) <;> rfl) | rfl)); all_goals (first | assumption | omega | ((simp only [List.length_cons, List.length_nil, List.length_map, List.length_set, List.length_replicate, sbytes_length, Nat.reduceAdd, Nat.reduceLeDiff, Nat.reduceLT, K0, K1, K2, K3, K4, K6, K7, K9, O0, O1, O2, O3, hN, T30, T32, T33, T83, T88, T89, T22, T38, T5, T3, hk, hn, bu83, bu88, bu89, putWh, T1, T2, cv32_8 Try.underlying22 Try.underlying5]) <;> first | done | omega | decide)))))
      | (apply R_cond
         · (simp only [RE, Nat.reduceEqDiff, Nat.reduceLT, Nat.reduceLeDiff, Nat.reduceBEq, reduceIte] <;> rfl))
      | (apply R_grd
         · (simp only [yieldedA, RY, Nat.reduceEqDiff, reduceIte] <;> rfl))
      | (refine R_iterK (by decide) [0, 1, 2, 3, 4, 6, 7, 9] [0, 1, 2, 3] ?_; intro e1 h1 hK hO hM; simp only [List.map_cons, List.map_nil, List.cons.injEq, and_true, RH, Nat.reduceAdd, Nat.reduceEqDiff, reduceIte, K0, K1, K2, K3, K4, K6, K7, K9, O0, O1, O2, O3, hN] at hK hM; simp only [List.map_cons, List.map_nil, List.cons.injEq, and_true, RH, Nat.reduceAdd, Nat.reduceEqDiff, reduceIte, K0, K1, K2, K3, K4, K6, K7, K9, O0, O1, O2, O3, hN] at hO; obtain ⟨K0, K1, K2, K3, K4, K6, K7, K9⟩ := hK; obtain ⟨O0, O1, O2, O3⟩ := hO; have hN := hM))
    refine W_loop (fun i e h => e 12 = iv i ∧ e 6 = .pointer (some ⟨2, 0, none⟩) ∧ e 7 = .pointer (some ⟨3, 0, none⟩) ∧ e 10 = .pointer (some ⟨4, 0, none⟩) ∧ e 11 = .pointer (some ⟨5, 0, none⟩) ∧ h.obj 2 = some (.row .rw 1 (b8 (List.replicate 64 0#8))) ∧ h.obj 3 = some (.row .rw 1 (b32 (first k n' c))) ∧ h.obj 4 = some (.row .rw 1 (b32 (rounds i (first k n' c)))) ∧ h.obj 5 = some (.row .rw 1 whCells) ∧ 6 ≤ h.nx) 80 (by decide) ?_ ?_ ?_
    · refine ⟨?_, ?_, ?_, ?_, ?_, ?_, ?_, ?_, ?_, ?_⟩ <;> (try simp only [List.map_cons, List.map_nil, RH, Nat.reduceAdd, Nat.reduceEqDiff, reduceIte, ev_tmp, ev_const, lit_iv, lit_w8, lit_w32, lit_w64, envOf0, envOf1, envOf2, envOf3, envOf4, envOf5, K6, K7, O2, O3, hN, T1, T2, T3, T5, T22, T30, T32, T33, T38, T83, T88, T89, cv32_8 Try.underlying22 Try.underlying5])
      · exact congrArg (fun l => some (AObj.row .rw 1 (b32 l))) (by kernel_rfl)
      · exact congrArg (fun l => some (AObj.row .rw 1 (b32 l))) (by kernel_rfl)
      · decide
    · intro i hi e h ⟨k12, k6, k7, k10, k11, o2, o3, o4, o5, hnx⟩
      have hx : (rounds i (first k n' c)).length = 16 := by rw [rounds_length]; rfl
      have n2 : ¬ 2 = h.nx := by omega
      have n3 : ¬ 3 = h.nx := by omega
      have n4 : ¬ 4 = h.nx := by omega
      have n5 : ¬ 5 = h.nx := by omega
      have m4 : ¬ h.nx = 4 := by omega
      have hc8 : i % 8 = 0 ∨ i % 8 = 1 ∨ i % 8 = 2 ∨ i % 8 = 3 ∨ i % 8 = 4 ∨ i % 8 = 5 ∨ i % 8 = 6 ∨ i % 8 = 7 := by omega
      rcases hc8 with h8 | h8 | h8 | h8 | h8 | h8 | h8 | h8
      all_goals
        repeat (first
          | refine R_seq ?_ | refine R_region ?_ | refine R_nil ?_ | refine Q_seq ?_ | refine Q_norm ?_ | refine Q_seqr ?_ | refine Q_seqx ?_ | refine Q_bl ?_ | refine Q_blr ?_ | refine Q_blx ?_ | refine Q_blo rfl ?_ | refine R_block ?_ | refine R_skip ?_ | refine R_exit ?_ | refine R_ret ?_ | refine I_true ?_ | refine I_false ?_ | refine N_exit ?_ | refine N_ret ?_
          | ((first | apply R_op | apply R_op0)
             · (first | (simp (maxDischargeDepth := 9) only [RA, Nat.reduceEqDiff, Nat.reduceLT, Nat.reduceLeDiff, Nat.reduceAdd, Nat.reduceSub, Nat.reduceMul, Nat.reduceDiv, Nat.reduceMod, Nat.reducePow, Nat.reduceBEq, Nat.reduceGT, reduceIte, k12, k6, k7, k10, k11, o2, o3, o4, o5, n2, n3, n4, n5, m4, h8, hi, hx, T88, T89, T83, T22, T3, cutWh0, cutWh1, cutWh2, cutWh3, cutWh4, cutWh5, cutWh6, cutWh7, put88, quarter_ref, q4, T1, T2, T5, T30, T32, T33, T38, cv32_8 Try.underlying22 Try.underlying5] <;> rfl) | ((repeat (first | (simp (maxDischargeDepth := 9) only [RA, Nat.reduceEqDiff, Nat.reduceLT, Nat.reduceLeDiff, Nat.reduceAdd, Nat.reduceSub, Nat.reduceMul, Nat.reduceDiv, Nat.reduceMod, Nat.reducePow, Nat.reduceBEq, Nat.reduceGT, reduceIte, k12, k6, k7, k10, k11, o2, o3, o4, o5, n2, n3, n4, n5, m4, h8, hi, hx, T88, T89, T83, T22, T3, cutWh0, cutWh1, cutWh2, cutWh3, cutWh4, cutWh5, cutWh6, cutWh7, put88, quarter_ref, q4, T1, T2, T5, T30, T32, T33, T38, cv32_8 Try.underlying22 Try.underlying5]; done) | simp (maxDischargeDepth := 9) only [RA, Nat.reduceEqDiff, Nat.reduceLT, Nat.reduceLeDiff, Nat.reduceAdd, Nat.reduceSub, Nat.reduceMul, Nat.reduceDiv, Nat.reduceMod, Nat.reducePow, Nat.reduceBEq, Nat.reduceGT, reduceIte, k12, k6, k7, k10, k11, o2, o3, o4, o5, n2, n3, n4, n5, m4, h8, hi, hx, T88, T89, T83, T22, T3, cutWh0, cutWh1, cutWh2, cutWh3, cutWh4, cutWh5, cutWh6, cutWh7, put88, quarter_ref, q4, T1, T2, T5, T30, T32, T33, T38, cv32_8 Try.underlying22 Try.underlying5] | simp (disch := first | assumption | omega) only [RV, k12, k6, k7, k10, k11, o2, o3, o4, o5, n2, n3, n4, n5, m4, h8, hi, hx, T88, T89, T83, T22, T3, cutWh0, cutWh1, cutWh2, cutWh3, cutWh4, cutWh5, cutWh6, cutWh7, put88, quarter_ref, q4, T1, T2, T5, T30, T32, T33, T38, cv32_8 Try.underlying22 Try.underlying5])) <;> rfl)))
          | (apply R_cond
             · (simp only [RE, Nat.reduceEqDiff, Nat.reduceLT, Nat.reduceLeDiff, Nat.reduceBEq, reduceIte] <;> rfl))
          | (apply R_grd
             · (simp only [yieldedA, RY, Nat.reduceEqDiff, reduceIte] <;> rfl)))
        refine D_draw [3, 5, 7, 31, 33, 35] (fun r => r = h.nx) (by kernel_rfl) ?_
        repeat (first
          | refine D_nil ?_ | refine I_true ?_ | refine I_false ?_
          | ((first | apply D_op | apply D_op0)
             · (first | (simp (maxDischargeDepth := 9) only [RA, Nat.reduceEqDiff, Nat.reduceLT, Nat.reduceLeDiff, Nat.reduceAdd, Nat.reduceSub, Nat.reduceMul, Nat.reduceDiv, Nat.reduceMod, Nat.reducePow, Nat.reduceBEq, Nat.reduceGT, reduceIte, k12, k6, k7, k10, k11, o2, o3, o4, o5, n2, n3, n4, n5, m4, h8, hi, hx, T88, T89, T83, T22, T3, cutWh0, cutWh1, cutWh2, cutWh3, cutWh4, cutWh5, cutWh6, cutWh7, put88, quarter_ref, q4, T1, T2, T5, T30, T32, T33, T38, cv32_8 Try.underlying22 Try.underlying5] <;> rfl) | ((repeat (first | (simp (maxDischargeDepth := 9) only [RA, Nat.reduceEqDiff, Nat.reduceLT, Nat.reduceLeDiff, Nat.reduceAdd, Nat.reduceSub, Nat.reduceMul, Nat.reduceDiv, Nat.reduceMod, Nat.reducePow, Nat.reduceBEq, Nat.reduceGT, reduceIte, k12, k6, k7, k10, k11, o2, o3, o4, o5, n2, n3, n4, n5, m4, h8, hi, hx, T88, T89, T83, T22, T3, cutWh0, cutWh1, cutWh2, cutWh3, cutWh4, cutWh5, cutWh6, cutWh7, put88, quarter_ref, q4, T1, T2, T5, T30, T32, T33, T38, cv32_8 Try.underlying22 Try.underlying5]; done) | simp (maxDischargeDepth := 9) only [RA, Nat.reduceEqDiff, Nat.reduceLT, Nat.reduceLeDiff, Nat.reduceAdd, Nat.reduceSub, Nat.reduceMul, Nat.reduceDiv, Nat.reduceMod, Nat.reducePow, Nat.reduceBEq, Nat.reduceGT, reduceIte, k12, k6, k7, k10, k11, o2, o3, o4, o5, n2, n3, n4, n5, m4, h8, hi, hx, T88, T89, T83, T22, T3, cutWh0, cutWh1, cutWh2, cutWh3, cutWh4, cutWh5, cutWh6, cutWh7, put88, quarter_ref, q4, T1, T2, T5, T30, T32, T33, T38, cv32_8 Try.underlying22 Try.underlying5] | simp (disch := first | assumption | omega) only [RV, k12, k6, k7, k10, k11, o2, o3, o4, o5, n2, n3, n4, n5, m4, h8, hi, hx, T88, T89, T83, T22, T3, cutWh0, cutWh1, cutWh2, cutWh3, cutWh4, cutWh5, cutWh6, cutWh7, put88, quarter_ref, q4, T1, T2, T5, T30, T32, T33, T38, cv32_8 Try.underlying22 Try.underlying5])) <;> rfl))
             · (intro hF; first | exact chk_pure rfl | exact chk_alloc rfl | exact chk_read rfl | exact chk_iso iso42 | exact chk_call iso42 (fun _ _ _ => rfl) | exact chk_iso iso91 | exact chk_call iso91 (fun _ _ _ => rfl) | (exfalso; revert hF; decide) | ((first | refine chk_load ?_ | refine chk_slice ?_ | refine chk_convert ?_ | refine chk_store ?_ | refine chk_call (by kernel_rfl) ?_); simp only [eq_self, ev_tmp, upd_apply, rowsOfV, List.mem_cons, List.not_mem_nil, or_false, forall_eq, forall_eq_or_imp, obj_put, obj_new, nx_new, nx_put, Nat.reduceEqDiff, if_true, if_false, reduceIte, implies_true, and_self, and_true, true_or, or_true, k12, k6, k7, k10, k11, o2, o3, o4, o5, n2, n3, n4, n5, m4, h8, hi, hx, T88, T89, T83, T22, T3, cutWh0, cutWh1, cutWh2, cutWh3, cutWh4, cutWh5, cutWh6, cutWh7, put88, quarter_ref, q4, T1, T2, T5, T30, T32, T33, T38, cv32_8 Try.underlying22 Try.underlying5])))
          | (apply D_grd
             · (simp only [yieldedA, RY, Nat.reduceEqDiff, reduceIte] <;> rfl)))
        repeat (first
          | refine R_seq ?_ | refine R_region ?_ | refine R_nil ?_ | refine Q_seq ?_ | refine Q_norm ?_ | refine Q_seqr ?_ | refine Q_seqx ?_ | refine Q_bl ?_ | refine Q_blr ?_ | refine Q_blx ?_ | refine Q_blo rfl ?_ | refine R_block ?_ | refine R_skip ?_ | refine R_exit ?_ | refine R_ret ?_ | refine I_true ?_ | refine I_false ?_ | refine N_exit ?_ | refine N_ret ?_
          | ((first | apply R_op | apply R_op0)
             · (first | (simp (maxDischargeDepth := 9) only [RA, Nat.reduceEqDiff, Nat.reduceLT, Nat.reduceLeDiff, Nat.reduceAdd, Nat.reduceSub, Nat.reduceMul, Nat.reduceDiv, Nat.reduceMod, Nat.reducePow, Nat.reduceBEq, Nat.reduceGT, reduceIte, k12, k6, k7, k10, k11, o2, o3, o4, o5, n2, n3, n4, n5, m4, h8, hi, hx, T88, T89, T83, T22, T3, cutWh0, cutWh1, cutWh2, cutWh3, cutWh4, cutWh5, cutWh6, cutWh7, put88, quarter_ref, q4, T1, T2, T5, T30, T32, T33, T38, cv32_8 Try.underlying22 Try.underlying5] <;> rfl) | ((repeat (first | (simp (maxDischargeDepth := 9) only [RA, Nat.reduceEqDiff, Nat.reduceLT, Nat.reduceLeDiff, Nat.reduceAdd, Nat.reduceSub, Nat.reduceMul, Nat.reduceDiv, Nat.reduceMod, Nat.reducePow, Nat.reduceBEq, Nat.reduceGT, reduceIte, k12, k6, k7, k10, k11, o2, o3, o4, o5, n2, n3, n4, n5, m4, h8, hi, hx, T88, T89, T83, T22, T3, cutWh0, cutWh1, cutWh2, cutWh3, cutWh4, cutWh5, cutWh6, cutWh7, put88, quarter_ref, q4, T1, T2, T5, T30, T32, T33, T38, cv32_8 Try.underlying22 Try.underlying5]; done) | simp (maxDischargeDepth := 9) only [RA, Nat.reduceEqDiff, Nat.reduceLT, Nat.reduceLeDiff, Nat.reduceAdd, Nat.reduceSub, Nat.reduceMul, Nat.reduceDiv, Nat.reduceMod, Nat.reducePow, Nat.reduceBEq, Nat.reduceGT, reduceIte, k12, k6, k7, k10, k11, o2, o3, o4, o5, n2, n3, n4, n5, m4, h8, hi, hx, T88, T89, T83, T22, T3, cutWh0, cutWh1, cutWh2, cutWh3, cutWh4, cutWh5, cutWh6, cutWh7, put88, quarter_ref, q4, T1, T2, T5, T30, T32, T33, T38, cv32_8 Try.underlying22 Try.underlying5] | simp (disch := first | assumption | omega) only [RV, k12, k6, k7, k10, k11, o2, o3, o4, o5, n2, n3, n4, n5, m4, h8, hi, hx, T88, T89, T83, T22, T3, cutWh0, cutWh1, cutWh2, cutWh3, cutWh4, cutWh5, cutWh6, cutWh7, put88, quarter_ref, q4, T1, T2, T5, T30, T32, T33, T38, cv32_8 Try.underlying22 Try.underlying5])) <;> rfl)))
          | (apply R_cond
             · (simp only [RE, Nat.reduceEqDiff, Nat.reduceLT, Nat.reduceLeDiff, Nat.reduceBEq, reduceIte] <;> rfl))
          | (apply R_grd
             · (simp only [yieldedA, RY, Nat.reduceEqDiff, reduceIte] <;> rfl)))
        refine ⟨rfl, ?_, ?_, ?_, ?_, ?_, ?_, ?_, ?_, ?_, ?_⟩ <;> (try simp only [List.map_cons, List.map_nil, RH, Nat.reduceAdd, Nat.reduceEqDiff, reduceIte, ev_tmp, ev_const, lit_iv, lit_w8, lit_w32, lit_w64, envOf0, envOf1, envOf2, envOf3, envOf4, envOf5, k12, k6, k7, k10, k11, o2, o3, o4, o5, n2, n3, n4, n5, m4, T1, T2, T3, T5, T22, T30, T32, T33, T38, T83, T88, T89, cv32_8 Try.underlying22 Try.underlying5])
        · exact congrArg (fun l => some (AObj.row .rw 1 (b32 l))) (by rw [rounds_succ]; unfold stepq; rw [h8]; rfl)
        · omega
    · intro e h ⟨k12, k6, k7, k10, k11, o2, o3, o4, o5, hnx⟩
      have n2 : ¬ 2 = h.nx := by omega
      have n3 : ¬ 3 = h.nx := by omega
      have n4 : ¬ 4 = h.nx := by omega
      repeat (first
        | refine R_seq ?_ | refine R_region ?_ | refine R_nil ?_ | refine Q_seq ?_ | refine Q_norm ?_ | refine Q_seqr ?_ | refine Q_seqx ?_ | refine Q_bl ?_ | refine Q_blr ?_ | refine Q_blx ?_ | refine Q_blo rfl ?_ | refine R_block ?_ | refine R_skip ?_ | refine R_exit ?_ | refine R_ret ?_ | refine I_true ?_ | refine I_false ?_ | refine N_exit ?_ | refine N_ret ?_
        | ((first | apply R_op | apply R_op0)
           · (first | (simp (maxDischargeDepth := 9) only [RA, Nat.reduceEqDiff, Nat.reduceLT, Nat.reduceLeDiff, Nat.reduceAdd, Nat.reduceSub, Nat.reduceMul, Nat.reduceDiv, Nat.reduceMod, Nat.reducePow, Nat.reduceBEq, Nat.reduceGT, reduceIte, k12, T1, T2, T3, T5, T22, T30, T32, T33, T38, T83, T88, T89, cv32_8 Try.underlying22 Try.underlying5] <;> rfl) | ((repeat (first | (simp (maxDischargeDepth := 9) only [RA, Nat.reduceEqDiff, Nat.reduceLT, Nat.reduceLeDiff, Nat.reduceAdd, Nat.reduceSub, Nat.reduceMul, Nat.reduceDiv, Nat.reduceMod, Nat.reducePow, Nat.reduceBEq, Nat.reduceGT, reduceIte, k12, T1, T2, T3, T5, T22, T30, T32, T33, T38, T83, T88, T89, cv32_8 Try.underlying22 Try.underlying5]; done) | simp (maxDischargeDepth := 9) only [RA, Nat.reduceEqDiff, Nat.reduceLT, Nat.reduceLeDiff, Nat.reduceAdd, Nat.reduceSub, Nat.reduceMul, Nat.reduceDiv, Nat.reduceMod, Nat.reducePow, Nat.reduceBEq, Nat.reduceGT, reduceIte, k12, T1, T2, T3, T5, T22, T30, T32, T33, T38, T83, T88, T89, cv32_8 Try.underlying22 Try.underlying5] | simp (disch := first | assumption | omega) only [RV, k12, T1, T2, T3, T5, T22, T30, T32, T33, T38, T83, T88, T89, cv32_8 Try.underlying22 Try.underlying5])) <;> rfl)))
        | (apply R_cond
           · (simp only [RE, Nat.reduceEqDiff, Nat.reduceLT, Nat.reduceLeDiff, Nat.reduceBEq, reduceIte] <;> rfl))
        | (apply R_grd
           · (simp only [yieldedA, RY, Nat.reduceEqDiff, reduceIte] <;> rfl)))
      repeat (first
        | refine R_seq ?_ | refine R_region ?_ | refine R_nil ?_ | refine Q_seq ?_ | refine Q_norm ?_ | refine Q_seqr ?_ | refine Q_seqx ?_ | refine Q_bl ?_ | refine Q_blr ?_ | refine Q_blx ?_ | refine Q_blo rfl ?_ | refine R_block ?_ | refine R_skip ?_ | refine R_exit ?_ | refine R_ret ?_ | refine I_true ?_ | refine I_false ?_ | refine N_exit ?_ | refine N_ret ?_
        | ((first | apply R_op | apply R_op0)
           · (first | (simp (maxDischargeDepth := 9) only [RA, Nat.reduceEqDiff, Nat.reduceLT, Nat.reduceLeDiff, Nat.reduceAdd, Nat.reduceSub, Nat.reduceMul, Nat.reduceDiv, Nat.reduceMod, Nat.reducePow, Nat.reduceBEq, Nat.reduceGT, reduceIte, k12, k6, k7, k10, o2, o3, o4, n2, n3, n4, T33, T1, T2, T3, T5, T22, T30, T32, T38, T83, T88, T89, cv32_8 Try.underlying22 Try.underlying5] <;> rfl) | ((repeat (first | (simp (maxDischargeDepth := 9) only [RA, Nat.reduceEqDiff, Nat.reduceLT, Nat.reduceLeDiff, Nat.reduceAdd, Nat.reduceSub, Nat.reduceMul, Nat.reduceDiv, Nat.reduceMod, Nat.reducePow, Nat.reduceBEq, Nat.reduceGT, reduceIte, k12, k6, k7, k10, o2, o3, o4, n2, n3, n4, T33, T1, T2, T3, T5, T22, T30, T32, T38, T83, T88, T89, cv32_8 Try.underlying22 Try.underlying5]; done) | simp (maxDischargeDepth := 9) only [RA, Nat.reduceEqDiff, Nat.reduceLT, Nat.reduceLeDiff, Nat.reduceAdd, Nat.reduceSub, Nat.reduceMul, Nat.reduceDiv, Nat.reduceMod, Nat.reducePow, Nat.reduceBEq, Nat.reduceGT, reduceIte, k12, k6, k7, k10, o2, o3, o4, n2, n3, n4, T33, T1, T2, T3, T5, T22, T30, T32, T38, T83, T88, T89, cv32_8 Try.underlying22 Try.underlying5] | simp (disch := first | assumption | omega) only [RV, k12, k6, k7, k10, o2, o3, o4, n2, n3, n4, T33, T1, T2, T3, T5, T22, T30, T32, T38, T83, T88, T89, cv32_8 Try.underlying22 Try.underlying5])) <;> rfl)))
        | (apply R_cond
           · (simp only [RE, Nat.reduceEqDiff, Nat.reduceLT, Nat.reduceLeDiff, Nat.reduceBEq, reduceIte] <;> rfl))
        | (apply R_grd
           · (simp only [yieldedA, RY, Nat.reduceEqDiff, reduceIte] <;> rfl)))
      have q2 : ¬ h.nx = 2 := by omega
      have q3 : ¬ h.nx = 3 := by omega
      have q4' : ¬ h.nx = 4 := by omega
      have hx : (rounds 80 (first k n' c)).length = 16 := by rw [rounds_length]; rfl
      have hs : (first k n' c).length = 16 := rfl
      refine W_loop (fun j e2 h2 => e2 15 = iv j ∧ e2 6 = .pointer (some ⟨2, 0, none⟩) ∧ e2 7 = .pointer (some ⟨3, 0, none⟩) ∧ e2 10 = .pointer (some ⟨4, 0, none⟩) ∧ e2 14 = .pointer (some ⟨h.nx, 0, none⟩) ∧ h2.obj 2 = some (.row .rw 1 (b8 (List.replicate 64 0#8))) ∧ h2.obj 3 = some (.row .rw 1 (b32 (first k n' c))) ∧ h2.obj 4 = some (.row .rw 1 (b32 (rounds 80 (first k n' c)))) ∧ h2.obj h.nx = some (.row .rw 1 (b8 (filled (outAt (rounds 80 (first k n' c)) (first k n' c)) 0#8 64 j)))) 64 (by decide) ?_ ?_ ?_
      · refine ⟨?_, ?_, ?_, ?_, ?_, ?_, ?_, ?_, ?_⟩ <;> (try simp only [List.map_cons, List.map_nil, RH, Nat.reduceAdd, Nat.reduceEqDiff, reduceIte, ev_tmp, ev_const, lit_iv, lit_w8, lit_w32, lit_w64, envOf0, envOf1, envOf2, envOf3, envOf4, envOf5, k12, k6, k7, k10, k11, o2, o3, o4, n2, n3, n4, rep8, T1, T2, T3, T5, T22, T30, T32, T33, T38, T83, T88, T89, cv32_8 Try.underlying22 Try.underlying5])
        rfl
      · intro j hj e2 h2 ⟨k15, k6, k7, k10, k14, o2, o3, o4, o6⟩
        have hl : (filled (outAt (rounds 80 (first k n' c)) (first k n' c)) 0#8 64 j).length = 64 := filled_length _ _ (by omega)
        have hq : j / 4 < 16 := by omega
        repeat (first
          | refine R_seq ?_ | refine R_region ?_ | refine R_nil ?_ | refine Q_seq ?_ | refine Q_norm ?_ | refine Q_seqr ?_ | refine Q_seqx ?_ | refine Q_bl ?_ | refine Q_blr ?_ | refine Q_blx ?_ | refine Q_blo rfl ?_ | refine R_block ?_ | refine R_skip ?_ | refine R_exit ?_ | refine R_ret ?_ | refine I_true ?_ | refine I_false ?_ | refine N_exit ?_ | refine N_ret ?_
          | (refine R_draw (by kernel_rfl) ?_)
          | ((first | apply R_op | apply R_op0)
             · (first | (simp (maxDischargeDepth := 9) only [RA, Nat.reduceEqDiff, Nat.reduceLT, Nat.reduceLeDiff, Nat.reduceAdd, Nat.reduceSub, Nat.reduceMul, Nat.reduceDiv, Nat.reduceMod, Nat.reducePow, Nat.reduceBEq, Nat.reduceGT, reduceIte, k15, k6, k7, k10, k14, o2, o3, o4, o6, hj, hx, hs, hl, hq, T33, T83, T22, T5, cv32_8 Try.underlying22 Try.underlying5, n2, n3, n4, q2, q3, q4', T1, T2, T3, T30, T32, T38, T88, T89] <;> rfl) | ((repeat (first | (simp (maxDischargeDepth := 9) only [RA, Nat.reduceEqDiff, Nat.reduceLT, Nat.reduceLeDiff, Nat.reduceAdd, Nat.reduceSub, Nat.reduceMul, Nat.reduceDiv, Nat.reduceMod, Nat.reducePow, Nat.reduceBEq, Nat.reduceGT, reduceIte, k15, k6, k7, k10, k14, o2, o3, o4, o6, hj, hx, hs, hl, hq, T33, T83, T22, T5, cv32_8 Try.underlying22 Try.underlying5, n2, n3, n4, q2, q3, q4', T1, T2, T3, T30, T32, T38, T88, T89]; done) | simp (maxDischargeDepth := 9) only [RA, Nat.reduceEqDiff, Nat.reduceLT, Nat.reduceLeDiff, Nat.reduceAdd, Nat.reduceSub, Nat.reduceMul, Nat.reduceDiv, Nat.reduceMod, Nat.reducePow, Nat.reduceBEq, Nat.reduceGT, reduceIte, k15, k6, k7, k10, k14, o2, o3, o4, o6, hj, hx, hs, hl, hq, T33, T83, T22, T5, cv32_8 Try.underlying22 Try.underlying5, n2, n3, n4, q2, q3, q4', T1, T2, T3, T30, T32, T38, T88, T89] | simp (disch := first | assumption | omega) only [RV, k15, k6, k7, k10, k14, o2, o3, o4, o6, hj, hx, hs, hl, hq, T33, T83, T22, T5, cv32_8 Try.underlying22 Try.underlying5, n2, n3, n4, q2, q3, q4', T1, T2, T3, T30, T32, T38, T88, T89])) <;> rfl)))
          | (apply R_cond
             · (simp only [RE, Nat.reduceEqDiff, Nat.reduceLT, Nat.reduceLeDiff, Nat.reduceBEq, reduceIte] <;> rfl))
          | (apply R_grd
             · (simp only [yieldedA, RY, Nat.reduceEqDiff, reduceIte] <;> rfl)))
        refine ⟨rfl, ?_, ?_, ?_, ?_, ?_, ?_, ?_, ?_, ?_⟩ <;> (try simp only [List.map_cons, List.map_nil, RH, Nat.reduceAdd, Nat.reduceEqDiff, reduceIte, ev_tmp, ev_const, lit_iv, lit_w8, lit_w32, lit_w64, envOf0, envOf1, envOf2, envOf3, envOf4, envOf5, k15, k6, k7, k10, k14, o2, o3, o4, o6, n2, n3, n4, q2, q3, q4', T1, T2, T3, T5, T22, T30, T32, T33, T38, T83, T88, T89, cv32_8 Try.underlying22 Try.underlying5])
        exact congrArg (fun l => some (AObj.row .rw 1 (b8 l))) (filled_set _ _ hj)
      · intro e2 h2 ⟨k15, k6, k7, k10, k14, o2, o3, o4, o6⟩
        rw [filled_full] at o6
        replace o6 : h2.obj h.nx = some (.row .rw 1 (b8 (outBytes (rounds 80 (first k n' c)) (first k n' c)))) := o6
        repeat (first
          | refine R_seq ?_ | refine R_region ?_ | refine R_nil ?_ | refine Q_seq ?_ | refine Q_norm ?_ | refine Q_seqr ?_ | refine Q_seqx ?_ | refine Q_bl ?_ | refine Q_blr ?_ | refine Q_blx ?_ | refine Q_blo rfl ?_ | refine R_block ?_ | refine R_skip ?_ | refine R_exit ?_ | refine R_ret ?_ | refine I_true ?_ | refine I_false ?_ | refine N_exit ?_ | refine N_ret ?_
          | ((first | apply R_op | apply R_op0)
             · (first | (simp (maxDischargeDepth := 9) only [RA, Nat.reduceEqDiff, Nat.reduceLT, Nat.reduceLeDiff, Nat.reduceAdd, Nat.reduceSub, Nat.reduceMul, Nat.reduceDiv, Nat.reduceMod, Nat.reducePow, Nat.reduceBEq, Nat.reduceGT, reduceIte, k15, T1, T2, T3, T5, T22, T30, T32, T33, T38, T83, T88, T89, cv32_8 Try.underlying22 Try.underlying5] <;> rfl) | ((repeat (first | (simp (maxDischargeDepth := 9) only [RA, Nat.reduceEqDiff, Nat.reduceLT, Nat.reduceLeDiff, Nat.reduceAdd, Nat.reduceSub, Nat.reduceMul, Nat.reduceDiv, Nat.reduceMod, Nat.reducePow, Nat.reduceBEq, Nat.reduceGT, reduceIte, k15, T1, T2, T3, T5, T22, T30, T32, T33, T38, T83, T88, T89, cv32_8 Try.underlying22 Try.underlying5]; done) | simp (maxDischargeDepth := 9) only [RA, Nat.reduceEqDiff, Nat.reduceLT, Nat.reduceLeDiff, Nat.reduceAdd, Nat.reduceSub, Nat.reduceMul, Nat.reduceDiv, Nat.reduceMod, Nat.reducePow, Nat.reduceBEq, Nat.reduceGT, reduceIte, k15, T1, T2, T3, T5, T22, T30, T32, T33, T38, T83, T88, T89, cv32_8 Try.underlying22 Try.underlying5] | simp (disch := first | assumption | omega) only [RV, k15, T1, T2, T3, T5, T22, T30, T32, T33, T38, T83, T88, T89, cv32_8 Try.underlying22 Try.underlying5])) <;> rfl)))
          | (apply R_cond
             · (simp only [RE, Nat.reduceEqDiff, Nat.reduceLT, Nat.reduceLeDiff, Nat.reduceBEq, reduceIte] <;> rfl))
          | (apply R_grd
             · (simp only [yieldedA, RY, Nat.reduceEqDiff, reduceIte] <;> rfl)))
        have hl : (outBytes (rounds 80 (first k n' c)) (first k n' c)).length = 64 := by simp [outBytes]
        repeat (first
          | refine R_seq ?_ | refine R_region ?_ | refine R_nil ?_ | refine Q_seq ?_ | refine Q_norm ?_ | refine Q_seqr ?_ | refine Q_seqx ?_ | refine Q_bl ?_ | refine Q_blr ?_ | refine Q_blx ?_ | refine Q_blo rfl ?_ | refine R_block ?_ | refine R_skip ?_ | refine R_exit ?_ | refine R_ret ?_ | refine I_true ?_ | refine I_false ?_ | refine N_exit ?_ | refine N_ret ?_
          | (refine R_draw (by kernel_rfl) ?_)
          | ((first | apply R_op | apply R_op0)
             · (first | (simp (maxDischargeDepth := 9) only [RA, Nat.reduceEqDiff, Nat.reduceLT, Nat.reduceLeDiff, Nat.reduceAdd, Nat.reduceSub, Nat.reduceMul, Nat.reduceDiv, Nat.reduceMod, Nat.reducePow, Nat.reduceBEq, Nat.reduceGT, reduceIte, k6, k14, o2, o6, hl, T33, q2, n2, T1, T2, T3, T5, T22, T30, T32, T38, T83, T88, T89, cv32_8 Try.underlying22 Try.underlying5] <;> rfl) | ((repeat (first | (simp (maxDischargeDepth := 9) only [RA, Nat.reduceEqDiff, Nat.reduceLT, Nat.reduceLeDiff, Nat.reduceAdd, Nat.reduceSub, Nat.reduceMul, Nat.reduceDiv, Nat.reduceMod, Nat.reducePow, Nat.reduceBEq, Nat.reduceGT, reduceIte, k6, k14, o2, o6, hl, T33, q2, n2, T1, T2, T3, T5, T22, T30, T32, T38, T83, T88, T89, cv32_8 Try.underlying22 Try.underlying5]; done) | simp (maxDischargeDepth := 9) only [RA, Nat.reduceEqDiff, Nat.reduceLT, Nat.reduceLeDiff, Nat.reduceAdd, Nat.reduceSub, Nat.reduceMul, Nat.reduceDiv, Nat.reduceMod, Nat.reducePow, Nat.reduceBEq, Nat.reduceGT, reduceIte, k6, k14, o2, o6, hl, T33, q2, n2, T1, T2, T3, T5, T22, T30, T32, T38, T83, T88, T89, cv32_8 Try.underlying22 Try.underlying5] | simp (disch := first | assumption | omega) only [RV, k6, k14, o2, o6, hl, T33, q2, n2, T1, T2, T3, T5, T22, T30, T32, T38, T83, T88, T89, cv32_8 Try.underlying22 Try.underlying5])) <;> rfl)))
          | (apply R_cond
             · (simp only [RE, Nat.reduceEqDiff, Nat.reduceLT, Nat.reduceLeDiff, Nat.reduceBEq, reduceIte] <;> rfl))
          | (apply R_grd
             · (simp only [yieldedA, RY, Nat.reduceEqDiff, reduceIte] <;> rfl)))
        first | refine ⟨.inr rfl, ?_⟩ | refine ⟨.inl rfl, ?_⟩
        simp only [evResultList, evResult, upd_apply, k6, ld33, obj_put, Nat.reduceEqDiff, if_true, if_false, reduceIte, cut8 hl, Option.map_some]
        exact ⟨_, rfl, rfl⟩
  obtain ⟨v, h1, e1, rfl⟩ := this
  exact isoPhi_eq (by first | rfl | simp only [List.all_cons, List.all_nil, closed_agg8, closed_agg32, closed_w8, closed_w32, closed_w64, closed_iv, Bool.and_true]) (by first | rfl | simp only [closed_agg8, closed_agg32]) e1
end Go.Proofs.Ytfehhihllenjiaa
