/- The digest: constants, words. -/
import Derived.Test.YtfehhihllenjiaaHa
import Derived.Test.YtfehhihllenjiaaGt
set_option linter.all false
namespace Go.Proofs.Ytfehhihllenjiaa
open Go.Proofs
theorem inl93 : inlOf Try.prog 93 = true := by kernel_rfl
theorem iso93 : isoOf Try.prog 93 = true := by kernel_rfl
theorem rounds93 (n : Nat) (h : Heap) : fcall Try.prog (n + 1) (.func (.func 93) #[] #[]) [] h = some (.ok (.agg ⟨b32 kl⟩), h) := by
  rw [fcall_iso inl93 iso93]
  kernel_rfl
theorem inl56 : inlOf Try.prog 56 = true := by kernel_rfl
theorem iso56 : isoOf Try.prog 56 = true := by kernel_rfl
theorem start56 (n : Nat) (h : Heap) : fcall Try.prog (n + 1) (.func (.func 56) #[] #[]) [] h = some (.ok (.agg ⟨b32 start.l⟩), h) := by
  rw [fcall_iso inl56 iso56]
  kernel_rfl
theorem inl57 : inlOf Try.prog 57 = true := by kernel_rfl
theorem iso57 : isoOf Try.prog 57 = true := by kernel_rfl
theorem start57 (n : Nat) (h : Heap) : fcall Try.prog (n + 1) (.func (.func 57) #[] #[]) [] h = some (.ok (.agg ⟨b32 start.l⟩), h) := by
  rw [fcall_iso inl57 iso57]
  kernel_rfl
theorem bu95 : evBuild Try.prog 95 [(0, w32 1116352408#32), (1, w32 1899447441#32), (2, w32 3049323471#32), (3, w32 3921009573#32), (4, w32 961987163#32), (5, w32 1508970993#32), (6, w32 2453635748#32), (7, w32 2870763221#32), (8, w32 3624381080#32), (9, w32 310598401#32), (10, w32 607225278#32), (11, w32 1426881987#32), (12, w32 1925078388#32), (13, w32 2162078206#32), (14, w32 2614888103#32), (15, w32 3248222580#32), (16, w32 3835390401#32), (17, w32 4022224774#32), (18, w32 264347078#32), (19, w32 604807628#32), (20, w32 770255983#32), (21, w32 1249150122#32), (22, w32 1555081692#32), (23, w32 1996064986#32), (24, w32 2554220882#32), (25, w32 2821834349#32), (26, w32 2952996808#32), (27, w32 3210313671#32), (28, w32 3336571891#32), (29, w32 3584528711#32), (30, w32 113926993#32), (31, w32 338241895#32), (32, w32 666307205#32), (33, w32 773529912#32), (34, w32 1294757372#32), (35, w32 1396182291#32), (36, w32 1695183700#32), (37, w32 1986661051#32), (38, w32 2177026350#32), (39, w32 2456956037#32), (40, w32 2730485921#32), (41, w32 2820302411#32), (42, w32 3259730800#32), (43, w32 3345764771#32), (44, w32 3516065817#32), (45, w32 3600352804#32), (46, w32 4094571909#32), (47, w32 275423344#32), (48, w32 430227734#32), (49, w32 506948616#32), (50, w32 659060556#32), (51, w32 883997877#32), (52, w32 958139571#32), (53, w32 1322822218#32), (54, w32 1537002063#32), (55, w32 1747873779#32), (56, w32 1955562222#32), (57, w32 2024104815#32), (58, w32 2227730452#32), (59, w32 2361852424#32), (60, w32 2428436474#32), (61, w32 2756734187#32), (62, w32 3204031479#32), (63, w32 3329325298#32)] = some (.agg ⟨b32 kl⟩) := by kernel_rfl
attribute [local irreducible] evOps iter evD evF evC evLoad evStore evAlloc evIndexAddr evIndex evLenB evBox evBin evUn evConvert evExtract evSlice evAppend evCopy evNil evBuild evMakeSlice evBuildSlice evBuiltin Program.underlying
attribute [local irreducible] kl wl rnds
theorem inl97 : inlOf Try.prog 97 = true := by kernel_rfl
theorem iso97 : isoOf Try.prog 97 = true := by kernel_rfl
set_option maxRecDepth 20000 in
set_option maxHeartbeats 8000000 in
theorem k97 (n : Nat) (i : Nat) (hi : i < 64) (h : Heap) : fcall Try.prog (n + 1) (.func (.func 97) #[] #[]) [iv i] h = some (.ok (w32 (kl.getD i 0#32)), h) := by
  rw [fcall_iso inl97 iso97]
  have : ∃ v h1, evF (cfg0 Try.prog) (n + 0 + 1) 97 [iv i] ⟨fun _ => none, 0⟩ = some (.ok v, h1) ∧ v = (w32 (kl.getD i 0#32)) := by
    rw [evF_eq Try.func97 rfl]
    apply evEnd_of_W
    simp only [Try.f97]
    repeat (first
      | refine R_seq ?_ | refine R_region ?_ | refine R_nil ?_ | refine Q_seq ?_ | refine Q_norm ?_ | refine Q_seqr ?_ | refine Q_seqx ?_ | refine Q_bl ?_ | refine Q_blr ?_ | refine Q_blx ?_ | refine Q_blo rfl ?_ | refine R_block ?_ | refine R_skip ?_ | refine R_exit ?_ | refine R_ret ?_ | refine I_true ?_ | refine I_false ?_ | refine N_exit ?_ | refine N_ret ?_
      | (refine R_draw (by kernel_rfl) ?_)
      | ((first | apply R_op | apply R_op0)
         · (first | (simp (maxDischargeDepth := 9) only [RA, Nat.reduceEqDiff, Nat.reduceLT, Nat.reduceLeDiff, Nat.reduceAdd, Nat.reduceSub, Nat.reduceMul, Nat.reduceDiv, Nat.reduceMod, Nat.reducePow, Nat.reduceBEq, Nat.reduceGT, reduceIte, bu95, hi, ix95 hi, idx32 (Nat.lt_of_lt_of_eq hi kl_length.symm), T95] <;> rfl) | ((repeat (first | (simp (maxDischargeDepth := 9) only [RA, Nat.reduceEqDiff, Nat.reduceLT, Nat.reduceLeDiff, Nat.reduceAdd, Nat.reduceSub, Nat.reduceMul, Nat.reduceDiv, Nat.reduceMod, Nat.reducePow, Nat.reduceBEq, Nat.reduceGT, reduceIte, bu95, hi, ix95 hi, idx32 (Nat.lt_of_lt_of_eq hi kl_length.symm), T95]; done) | simp (maxDischargeDepth := 9) only [RA, Nat.reduceEqDiff, Nat.reduceLT, Nat.reduceLeDiff, Nat.reduceAdd, Nat.reduceSub, Nat.reduceMul, Nat.reduceDiv, Nat.reduceMod, Nat.reducePow, Nat.reduceBEq, Nat.reduceGT, reduceIte, bu95, hi, ix95 hi, idx32 (Nat.lt_of_lt_of_eq hi kl_length.symm), T95] | simp (disch := first | assumption | omega) only [RV, bu95, hi, ix95 hi, idx32 (Nat.lt_of_lt_of_eq hi kl_length.symm), T95])) <;> rfl)))
      | (apply R_cond
         · (simp only [RE, Nat.reduceEqDiff, Nat.reduceLT, Nat.reduceLeDiff, Nat.reduceBEq, reduceIte, bu95, hi, ix95 hi, idx32 (Nat.lt_of_lt_of_eq hi kl_length.symm), T95] <;> rfl))
      | (apply R_grd
         · (simp only [yieldedA, RY, Nat.reduceEqDiff, reduceIte, bu95, hi, ix95 hi, idx32 (Nat.lt_of_lt_of_eq hi kl_length.symm), T95] <;> rfl)))
    (first | refine ⟨.inr rfl, _, rfl, ?_⟩ | refine ⟨.inl rfl, _, rfl, ?_⟩) <;> simp only [packR, upd_apply, Nat.reduceEqDiff, if_true, if_false, reduceIte]
  obtain ⟨v, h1, e1, rfl⟩ := this
  exact isoPhi_eq (by first | rfl | simp only [List.all_cons, List.all_nil, closed_agg8, closed_agg32, closed_w8, closed_w32, closed_w64, closed_iv, Bool.and_true]) (by first | rfl | simp only [closed_agg8, closed_agg32]) e1
end Go.Proofs.Ytfehhihllenjiaa
