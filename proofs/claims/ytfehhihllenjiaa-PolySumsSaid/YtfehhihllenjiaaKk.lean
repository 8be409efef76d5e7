/- One-time tags: what is alive, a key's half. -/
import Derived.Test.YtfehhihllenjiaaKj
import Derived.Test.YtfehhihllenjiaaGt
set_option linter.all false
namespace Go.Proofs.Ytfehhihllenjiaa
open Go.Proofs
theorem R_cvp {P : Program} {call : Value → Phi} {e : Env} {h : Heap} {Q : Post} {all : Array Oper} {l : List Oper} {ty : TypeId} {pos : String} {af : Array Edge} {t el : TypeId} {a : Operand} {d b i n c es : Nat} {cs : List Value} (ht : P.underlying t = some (.slice el)) (he : P.underlying el = some (.int .u8)) (ha : ev e a = .slice (some ⟨b, i, none⟩) n c) (ho : h.obj b = some (.row .rw es cs))
    (hw : W (evOps call P all l (upd e d (.slice (some ⟨b, i, none⟩) n c)) h) Q) : W (evOps call P all (⟨some d, .convert t t a, ty, pos, af, none⟩ :: l) e h) Q := by
  refine R_op (v := .slice (some ⟨b, i, none⟩) n c) (h' := h) ?_ hw
  rw [op_convert, ha, cv_same ht he ho]
  rfl
theorem eqg57 : Try.prog.eqGuardType Try.prog.depth 57 = false := by kernel_rfl
theorem beq57 {l : Bool} {xs ys : List (BitVec 8)} (hx : xs.length = 16) (hy : ys.length = 16) : evBin Try.prog .eql 57 l (.agg ⟨b8 xs⟩) (.agg ⟨b8 ys⟩) = some (.bool (decide (xs = ys))) := by
  have h := fun m => eq_row (f := w8) 0#8 Try.underlying57 Try.underlying5 rfl inf5 rfl (fun m x y => eq_w8 Try.underlying5 m x y) hx hy m
  have e1 : eqOk Try.prog 57 l (.agg ⟨b8 xs⟩) (.agg ⟨b8 ys⟩) = true := by
    show (!Try.prog.eqGuardType Try.prog.depth 57) = true
    rw [eqg57]; rfl
  simp only [evBin, e1, if_true]
  have e2 : evEq Try.prog Op.maxDepth 57 (.agg ⟨b8 xs⟩) (.agg ⟨b8 ys⟩) = some (decide (xs = ys)) := h (Op.maxDepth - 2)
  rw [e2]; rfl
theorem eqg56 : Try.prog.eqGuardType Try.prog.depth 56 = false := by kernel_rfl
theorem beq56 {l : Bool} {xs ys : List (BitVec 8)} (hx : xs.length = 16) (hy : ys.length = 16) : evBin Try.prog .eql 56 l (.agg ⟨b8 xs⟩) (.agg ⟨b8 ys⟩) = some (.bool (decide (xs = ys))) := by
  have h := fun m => eq_row (f := w8) 0#8 Try.underlying56 Try.underlying5 rfl inf5 rfl (fun m x y => eq_w8 Try.underlying5 m x y) hx hy m
  have e1 : eqOk Try.prog 56 l (.agg ⟨b8 xs⟩) (.agg ⟨b8 ys⟩) = true := by
    show (!Try.prog.eqGuardType Try.prog.depth 56) = true
    rw [eqg56]; rfl
  simp only [evBin, e1, if_true]
  have e2 : evEq Try.prog Op.maxDepth 56 (.agg ⟨b8 xs⟩) (.agg ⟨b8 ys⟩) = some (decide (xs = ys)) := h (Op.maxDepth - 2)
  rw [e2]; rfl
/-- The first i of n, the others 0. -/
def cpy (xs : List (BitVec 8)) (n i : Nat) : List (BitVec 8) := xs.take i ++ List.replicate (n - i) 0#8
theorem cpy_zero (xs : List (BitVec 8)) (n : Nat) : cpy xs n 0 = List.replicate n 0#8 := by simp [cpy]
theorem cpy_length {xs : List (BitVec 8)} {n i : Nat} (h : i ≤ n) (hi : i ≤ xs.length) : (cpy xs n i).length = n := by simp [cpy]; omega
theorem cpy_set {xs : List (BitVec 8)} {n i : Nat} (h : i < n) (hi : i < xs.length) : (cpy xs n i).set i (xs.getD i 0#8) = cpy xs n (i + 1) := by
  unfold cpy
  have hl : (xs.take i).length = i := by rw [List.length_take]; omega
  rw [List.set_append_right _ _ (by omega), hl, Nat.sub_self, show n - i = (n - (i + 1)) + 1 by omega, List.replicate_succ, List.set_cons_zero, List.take_succ, List.getElem?_eq_getElem hi, Option.toList_some, List.append_assoc, List.getD_eq_getElem?_getD, List.getElem?_eq_getElem hi]
  rfl
theorem cpy_full (xs : List (BitVec 8)) (n : Nat) : cpy xs n n = xs.take n := by simp [cpy]
def pkL : List (BitVec 8) := [133#8, 214#8, 190#8, 120#8, 87#8, 85#8, 109#8, 51#8, 127#8, 68#8, 82#8, 254#8, 66#8, 213#8, 6#8, 168#8, 1#8, 3#8, 128#8, 138#8, 251#8, 13#8, 178#8, 253#8, 74#8, 191#8, 246#8, 175#8, 65#8, 73#8, 245#8, 27#8]
def pbL : List (BitVec 8) := [67#8, 114#8, 121#8, 112#8, 116#8, 111#8, 103#8, 114#8, 97#8, 112#8, 104#8, 105#8, 99#8, 32#8, 70#8, 111#8, 114#8, 117#8, 109#8, 32#8, 82#8, 101#8, 115#8, 101#8, 97#8, 114#8, 99#8, 104#8, 32#8, 71#8, 114#8, 111#8, 117#8, 112#8]
def ptL : List (BitVec 8) := [168#8, 6#8, 29#8, 193#8, 48#8, 81#8, 54#8, 198#8, 194#8, 43#8, 139#8, 175#8, 12#8, 1#8, 39#8, 169#8]
theorem poly_test : polyT pkL pbL = ptL := by kernel_rfl
theorem bu30p : evBuild Try.prog 30 [(0, w8 133#8), (1, w8 214#8), (2, w8 190#8), (3, w8 120#8), (4, w8 87#8), (5, w8 85#8), (6, w8 109#8), (7, w8 51#8), (8, w8 127#8), (9, w8 68#8), (10, w8 82#8), (11, w8 254#8), (12, w8 66#8), (13, w8 213#8), (14, w8 6#8), (15, w8 168#8), (16, w8 1#8), (17, w8 3#8), (18, w8 128#8), (19, w8 138#8), (20, w8 251#8), (21, w8 13#8), (22, w8 178#8), (23, w8 253#8), (24, w8 74#8), (25, w8 191#8), (26, w8 246#8), (27, w8 175#8), (28, w8 65#8), (29, w8 73#8), (30, w8 245#8), (31, w8 27#8)] = some (.agg ⟨b8 pkL⟩) := by kernel_rfl
theorem bu57p : evBuild Try.prog 57 [(0, w8 168#8), (1, w8 6#8), (2, w8 29#8), (3, w8 193#8), (4, w8 48#8), (5, w8 81#8), (6, w8 54#8), (7, w8 198#8), (8, w8 194#8), (9, w8 43#8), (10, w8 139#8), (11, w8 175#8), (12, w8 12#8), (13, w8 1#8), (14, w8 39#8), (15, w8 169#8)] = some (.agg ⟨b8 ptL⟩) := by kernel_rfl
theorem bs38p {h : Heap} : evBuildSlice Try.prog 38 34 [(0, w8 67#8), (1, w8 114#8), (2, w8 121#8), (3, w8 112#8), (4, w8 116#8), (5, w8 111#8), (6, w8 103#8), (7, w8 114#8), (8, w8 97#8), (9, w8 112#8), (10, w8 104#8), (11, w8 105#8), (12, w8 99#8), (13, w8 32#8), (14, w8 70#8), (15, w8 111#8), (16, w8 114#8), (17, w8 117#8), (18, w8 109#8), (19, w8 32#8), (20, w8 82#8), (21, w8 101#8), (22, w8 115#8), (23, w8 101#8), (24, w8 97#8), (25, w8 114#8), (26, w8 99#8), (27, w8 104#8), (28, w8 32#8), (29, w8 71#8), (30, w8 114#8), (31, w8 111#8), (32, w8 117#8), (33, w8 112#8)] h = some (.slice (some ⟨h.nx, 0, none⟩) 34 34, newRowH h .rw 1 (b8 pbL)) := by kernel_rfl
attribute [local irreducible] evOps iter evD evF evC evLoad evStore evAlloc evIndexAddr evIndex evLenB evBox evBin evUn evConvert evExtract evSlice evAppend evCopy evNil evBuild evMakeSlice evBuildSlice evBuiltin Program.underlying
attribute [local irreducible] polyT pkL pbL ptL clampB cpy
theorem pkL_length : pkL.length = 32 := by unfold pkL; rfl
theorem pbL_length : pbL.length = 34 := by unfold pbL; rfl
theorem ptL_length : ptL.length = 16 := by unfold ptL; rfl
theorem inl62 : inlOf Try.prog 62 = true := by kernel_rfl
theorem iso62 : isoOf Try.prog 62 = true := by kernel_rfl
set_option maxRecDepth 20000 in
set_option maxHeartbeats 8000000 in
theorem live62 (n : Nat)  (h : Heap) : fcall Try.prog (n + 11) (.func (.func 62) #[] #[]) [] h = some (.ok (.bool true), h) := by
  rw [fcall_iso inl62 iso62]
  have : ∃ v h1, evF (cfg0 Try.prog) (n + 10 + 1) 62 [] ⟨fun _ => none, 0⟩ = some (.ok v, h1) ∧ v = (.bool true) := by
    rw [evF_eq Try.func62 rfl]
    apply evEnd_of_W
    simp only [Try.f62]
    have hk := pkL_length
    have hp8 := fun (H : Heap) (p : Nat) => puts8 (h := H) (b := p) (es := 1) hk (List.length_replicate (n := 32) (a := 0#8))
    repeat (first
      | refine R_seq ?_ | refine R_region ?_ | refine R_nil ?_ | refine Q_seq ?_ | refine Q_norm ?_ | refine Q_seqr ?_ | refine Q_seqx ?_ | refine Q_bl ?_ | refine Q_blr ?_ | refine Q_blx ?_ | refine Q_blo rfl ?_ | refine R_block ?_ | refine R_skip ?_ | refine R_exit ?_ | refine R_ret ?_ | refine I_true ?_ | refine I_false ?_ | refine N_exit ?_ | refine N_ret ?_
      | ((first | apply R_op | apply R_op0)
         · (first | (simp (maxDischargeDepth := 9) only [RA, Nat.reduceEqDiff, Nat.reduceLT, Nat.reduceLeDiff, Nat.reduceAdd, Nat.reduceSub, Nat.reduceMul, Nat.reduceDiv, Nat.reduceMod, Nat.reducePow, Nat.reduceBEq, Nat.reduceGT, reduceIte, bu30p, hp8, cut8 hk, bs38p, T30, T34, T38, T57] <;> rfl) | ((repeat (first | (simp (maxDischargeDepth := 9) only [RA, Nat.reduceEqDiff, Nat.reduceLT, Nat.reduceLeDiff, Nat.reduceAdd, Nat.reduceSub, Nat.reduceMul, Nat.reduceDiv, Nat.reduceMod, Nat.reducePow, Nat.reduceBEq, Nat.reduceGT, reduceIte, bu30p, hp8, cut8 hk, bs38p, T30, T34, T38, T57]; done) | simp (maxDischargeDepth := 9) only [RA, Nat.reduceEqDiff, Nat.reduceLT, Nat.reduceLeDiff, Nat.reduceAdd, Nat.reduceSub, Nat.reduceMul, Nat.reduceDiv, Nat.reduceMod, Nat.reducePow, Nat.reduceBEq, Nat.reduceGT, reduceIte, bu30p, hp8, cut8 hk, bs38p, T30, T34, T38, T57] | simp (disch := first | assumption | omega) only [RV, bu30p, hp8, cut8 hk, bs38p, T30, T34, T38, T57])) <;> rfl)))
      | (apply R_cond
         · (simp only [RE, Nat.reduceEqDiff, Nat.reduceLT, Nat.reduceLeDiff, Nat.reduceBEq, reduceIte, bu30p, hp8, cut8 hk, bs38p, T30, T34, T38, T57] <;> rfl))
      | (apply R_grd
         · (simp only [yieldedA, RY, Nat.reduceEqDiff, reduceIte, bu30p, hp8, cut8 hk, bs38p, T30, T34, T38, T57] <;> rfl)))
    refine R_cvp Try.underlying38 Try.underlying5 (b := 1) (i := 0) (n := 34) (c := 34) (es := 1) (cs := b8 pbL) (by first | rfl | (first | rw [ev_tmp] | rw [ev_const] | skip) <;> simp only [upd_apply, Nat.reduceEqDiff, if_true, if_false, reduceIte, lit_iv, lit_w8]) (by simp [RH]) ?_
    repeat (first
      | refine R_seq ?_ | refine R_region ?_ | refine R_nil ?_ | refine Q_seq ?_ | refine Q_norm ?_ | refine Q_seqr ?_ | refine Q_seqx ?_ | refine Q_bl ?_ | refine Q_blr ?_ | refine Q_blx ?_ | refine Q_blo rfl ?_ | refine R_block ?_ | refine R_skip ?_ | refine R_exit ?_ | refine R_ret ?_ | refine I_true ?_ | refine I_false ?_ | refine N_exit ?_ | refine N_ret ?_
      | ((first | apply R_op | apply R_op0)
         · (first | (simp (maxDischargeDepth := 9) only [RA, Nat.reduceEqDiff, Nat.reduceLT, Nat.reduceLeDiff, Nat.reduceAdd, Nat.reduceSub, Nat.reduceMul, Nat.reduceDiv, Nat.reduceMod, Nat.reducePow, Nat.reduceBEq, Nat.reduceGT, reduceIte, T30, T34, T38, T57] <;> rfl) | ((repeat (first | (simp (maxDischargeDepth := 9) only [RA, Nat.reduceEqDiff, Nat.reduceLT, Nat.reduceLeDiff, Nat.reduceAdd, Nat.reduceSub, Nat.reduceMul, Nat.reduceDiv, Nat.reduceMod, Nat.reducePow, Nat.reduceBEq, Nat.reduceGT, reduceIte, T30, T34, T38, T57]; done) | simp (maxDischargeDepth := 9) only [RA, Nat.reduceEqDiff, Nat.reduceLT, Nat.reduceLeDiff, Nat.reduceAdd, Nat.reduceSub, Nat.reduceMul, Nat.reduceDiv, Nat.reduceMod, Nat.reducePow, Nat.reduceBEq, Nat.reduceGT, reduceIte, T30, T34, T38, T57] | simp (disch := first | assumption | omega) only [RV, T30, T34, T38, T57])) <;> rfl)))
      | (apply R_cond
         · (simp only [RE, Nat.reduceEqDiff, Nat.reduceLT, Nat.reduceLeDiff, Nat.reduceBEq, reduceIte, T30, T34, T38, T57] <;> rfl))
      | (apply R_grd
         · (simp only [yieldedA, RY, Nat.reduceEqDiff, reduceIte, T30, T34, T38, T57] <;> rfl)))
    refine R_fn ?_ (sum63 (n + 2) _ pkL hk (.slice (some ⟨1, 0, none⟩) 34 34) pbL (by_row (k := .rw) (by simp [RH]) (by simp [RH]) (Nat.le_refl _) pbL_length) (by rw [pbL_length]; decide)) ?_
    · rfl
    intro v1 h1 ⟨hv1, F1⟩
    subst hv1
    rw [poly_test]
    have hl := ptL_length
    have hp16 := fun (H : Heap) (p : Nat) => puts8 (h := H) (b := p) (es := 1) hl (List.length_replicate (n := 16) (a := 0#8))
    repeat (first
      | refine R_seq ?_ | refine R_region ?_ | refine R_nil ?_ | refine Q_seq ?_ | refine Q_norm ?_ | refine Q_seqr ?_ | refine Q_seqx ?_ | refine Q_bl ?_ | refine Q_blr ?_ | refine Q_blx ?_ | refine Q_blo rfl ?_ | refine R_block ?_ | refine R_skip ?_ | refine R_exit ?_ | refine R_ret ?_ | refine I_true ?_ | refine I_false ?_ | refine N_exit ?_ | refine N_ret ?_
      | ((first | apply R_op | apply R_op0)
         · (first | (simp (maxDischargeDepth := 9) only [RA, Nat.reduceEqDiff, Nat.reduceLT, Nat.reduceLeDiff, Nat.reduceAdd, Nat.reduceSub, Nat.reduceMul, Nat.reduceDiv, Nat.reduceMod, Nat.reducePow, Nat.reduceBEq, Nat.reduceGT, reduceIte, hp16, cut8 hl, bu57p, beq57 hl hl, T30, T34, T38, T57] <;> rfl) | ((repeat (first | (simp (maxDischargeDepth := 9) only [RA, Nat.reduceEqDiff, Nat.reduceLT, Nat.reduceLeDiff, Nat.reduceAdd, Nat.reduceSub, Nat.reduceMul, Nat.reduceDiv, Nat.reduceMod, Nat.reducePow, Nat.reduceBEq, Nat.reduceGT, reduceIte, hp16, cut8 hl, bu57p, beq57 hl hl, T30, T34, T38, T57]; done) | simp (maxDischargeDepth := 9) only [RA, Nat.reduceEqDiff, Nat.reduceLT, Nat.reduceLeDiff, Nat.reduceAdd, Nat.reduceSub, Nat.reduceMul, Nat.reduceDiv, Nat.reduceMod, Nat.reducePow, Nat.reduceBEq, Nat.reduceGT, reduceIte, hp16, cut8 hl, bu57p, beq57 hl hl, T30, T34, T38, T57] | simp (disch := first | assumption | omega) only [RV, hp16, cut8 hl, bu57p, beq57 hl hl, T30, T34, T38, T57])) <;> rfl)))
      | (apply R_cond
         · (simp only [RE, Nat.reduceEqDiff, Nat.reduceLT, Nat.reduceLeDiff, Nat.reduceBEq, reduceIte, hp16, cut8 hl, bu57p, beq57 hl hl, T30, T34, T38, T57] <;> rfl))
      | (apply R_grd
         · (simp only [yieldedA, RY, Nat.reduceEqDiff, reduceIte, hp16, cut8 hl, bu57p, beq57 hl hl, T30, T34, T38, T57] <;> rfl)))
    (first | refine ⟨.inr rfl, _, rfl, ?_⟩ | refine ⟨.inl rfl, _, rfl, ?_⟩) <;> simp only [packR, upd_apply, Nat.reduceEqDiff, if_true, if_false, reduceIte]
  obtain ⟨v, h1, e1, rfl⟩ := this
  exact isoPhi_eq (by first | rfl | simp only [List.all_cons, List.all_nil, closed_agg8, closed_agg32, closed_w8, closed_w32, closed_w64, closed_iv, Bool.and_true]) (by first | rfl | simp only [closed_agg8, closed_agg32]) e1
theorem inl67 : inlOf Try.prog 67 = true := by kernel_rfl
theorem iso67 : isoOf Try.prog 67 = true := by kernel_rfl
set_option maxRecDepth 20000 in
set_option maxHeartbeats 8000000 in
theorem half_ev (n : Nat) (k : List (BitVec 8)) (hk : k.length = 32) (h : Heap) : fcall Try.prog (n + 2) (.func (.func 67) #[] #[]) [.agg ⟨b8 k⟩] h = some (.ok (.agg ⟨b8 ((k.drop 16).take 16)⟩), h) := by
  rw [fcall_iso inl67 iso67]
  have : ∃ v h1, evF (cfg0 Try.prog) (n + 1 + 1) 67 [.agg ⟨b8 k⟩] ⟨fun _ => none, 0⟩ = some (.ok v, h1) ∧ v = (.agg ⟨b8 ((k.drop 16).take 16)⟩) := by
    rw [evF_eq Try.func67 rfl]
    apply evEnd_of_W
    simp only [Try.f67]
    repeat (first
      | refine R_seq ?_ | refine R_region ?_ | refine R_nil ?_ | refine Q_seq ?_ | refine Q_norm ?_ | refine Q_seqr ?_ | refine Q_seqx ?_ | refine Q_bl ?_ | refine Q_blr ?_ | refine Q_blx ?_ | refine Q_blo rfl ?_ | refine R_block ?_ | refine R_skip ?_ | refine R_exit ?_ | refine R_ret ?_ | refine I_true ?_ | refine I_false ?_ | refine N_exit ?_ | refine N_ret ?_
      | ((first | apply R_op | apply R_op0)
         · (first | (simp (maxDischargeDepth := 9) only [RA, Nat.reduceEqDiff, Nat.reduceLT, Nat.reduceLeDiff, Nat.reduceAdd, Nat.reduceSub, Nat.reduceMul, Nat.reduceDiv, Nat.reduceMod, Nat.reducePow, Nat.reduceBEq, Nat.reduceGT, reduceIte, hk, T3, T5, T30, T57] <;> rfl) | ((repeat (first | (simp (maxDischargeDepth := 9) only [RA, Nat.reduceEqDiff, Nat.reduceLT, Nat.reduceLeDiff, Nat.reduceAdd, Nat.reduceSub, Nat.reduceMul, Nat.reduceDiv, Nat.reduceMod, Nat.reducePow, Nat.reduceBEq, Nat.reduceGT, reduceIte, hk, T3, T5, T30, T57]; done) | simp (maxDischargeDepth := 9) only [RA, Nat.reduceEqDiff, Nat.reduceLT, Nat.reduceLeDiff, Nat.reduceAdd, Nat.reduceSub, Nat.reduceMul, Nat.reduceDiv, Nat.reduceMod, Nat.reducePow, Nat.reduceBEq, Nat.reduceGT, reduceIte, hk, T3, T5, T30, T57] | simp (disch := first | assumption | omega) only [RV, hk, T3, T5, T30, T57])) <;> rfl)))
      | (apply R_cond
         · (simp only [RE, Nat.reduceEqDiff, Nat.reduceLT, Nat.reduceLeDiff, Nat.reduceBEq, reduceIte, hk, T3, T5, T30, T57] <;> rfl))
      | (apply R_grd
         · (simp only [yieldedA, RY, Nat.reduceEqDiff, reduceIte, hk, T3, T5, T30, T57] <;> rfl)))
    refine W_loopK [1, 2, 3] [0] (fun i e1 h1 => e1 4 = iv i ∧ h1.obj 2 = some (.row .rw 1 (b8 (cpy (k.drop 16) 16 i))) ∧ h1.obj 1 = some (.row .rw 1 (b8 (List.replicate 16 0#8)))) 16 (by decide) ?_ ?_ ?_
    · refine ⟨by (try simp only [List.map_cons, List.map_nil, RH, Nat.reduceAdd, Nat.reduceEqDiff, reduceIte, ev_tmp, ev_const, lit_iv, lit_w8, lit_w32, lit_w64, envOf0, envOf1, envOf2, envOf3, envOf4, envOf5, T3, T5, T30, T57]), ?_, ?_⟩
      · simp [RH, cpy_zero, rep8]
      · simp [RH, rep8]
    · intro i hi e1 h1 hK hO hN ⟨j4, o2, o1⟩
      simp only [List.map_cons, List.map_nil, List.cons.injEq, and_true, RH, Nat.reduceAdd, Nat.reduceEqDiff, reduceIte, envOf0, envOf1, envOf2, envOf3, envOf4, envOf5] at hK
      obtain ⟨K0_1, K0_2, K0_3⟩ := hK
      simp only [List.map_cons, List.map_nil, List.cons.injEq, and_true, RH, Nat.reduceAdd, Nat.reduceEqDiff, reduceIte, envOf0, envOf1, envOf2, envOf3, envOf4, envOf5] at hO
      have O0_0 := hO
      try simp only [RH] at hN
      have hcl := cpy_length (xs := k.drop 16) (n := 16) (i := i) (by omega) (by simp; omega)
      have hcs := cpy_set (xs := k.drop 16) (n := 16) (i := i) hi (by simp; omega)
      have hi2 : 16 + i < 32 := by omega
      have hg : (k.drop 16).getD i 0#8 = k.getD (16 + i) 0#8 := by
        rw [List.getD_eq_getElem?_getD, List.getD_eq_getElem?_getD, List.getElem?_drop]
      rw [hg] at hcs
      repeat (first
        | refine R_seq ?_ | refine R_region ?_ | refine R_nil ?_ | refine Q_seq ?_ | refine Q_norm ?_ | refine Q_seqr ?_ | refine Q_seqx ?_ | refine Q_bl ?_ | refine Q_blr ?_ | refine Q_blx ?_ | refine Q_blo rfl ?_ | refine R_block ?_ | refine R_skip ?_ | refine R_exit ?_ | refine R_ret ?_ | refine I_true ?_ | refine I_false ?_ | refine N_exit ?_ | refine N_ret ?_
        | ((first | apply R_op | apply R_op0)
           · (first | (simp (maxDischargeDepth := 9) only [RA, Nat.reduceEqDiff, Nat.reduceLT, Nat.reduceLeDiff, Nat.reduceAdd, Nat.reduceSub, Nat.reduceMul, Nat.reduceDiv, Nat.reduceMod, Nat.reducePow, Nat.reduceBEq, Nat.reduceGT, reduceIte, j4, hi, hi2, o2, hcl, hk, hcs, T3, T5, T30, T57, K0_1, K0_2, K0_3, O0_0] <;> rfl) | ((repeat (first | (simp (maxDischargeDepth := 9) only [RA, Nat.reduceEqDiff, Nat.reduceLT, Nat.reduceLeDiff, Nat.reduceAdd, Nat.reduceSub, Nat.reduceMul, Nat.reduceDiv, Nat.reduceMod, Nat.reducePow, Nat.reduceBEq, Nat.reduceGT, reduceIte, j4, hi, hi2, o2, hcl, hk, hcs, T3, T5, T30, T57, K0_1, K0_2, K0_3, O0_0]; done) | simp (maxDischargeDepth := 9) only [RA, Nat.reduceEqDiff, Nat.reduceLT, Nat.reduceLeDiff, Nat.reduceAdd, Nat.reduceSub, Nat.reduceMul, Nat.reduceDiv, Nat.reduceMod, Nat.reducePow, Nat.reduceBEq, Nat.reduceGT, reduceIte, j4, hi, hi2, o2, hcl, hk, hcs, T3, T5, T30, T57, K0_1, K0_2, K0_3, O0_0] | simp (disch := first | assumption | omega) only [RV, j4, hi, hi2, o2, hcl, hk, hcs, T3, T5, T30, T57, K0_1, K0_2, K0_3, O0_0])) <;> rfl)))
        | (apply R_cond
           · (simp only [RE, Nat.reduceEqDiff, Nat.reduceLT, Nat.reduceLeDiff, Nat.reduceBEq, reduceIte, j4, hi, hi2, o2, hcl, hk, hcs, T3, T5, T30, T57, K0_1, K0_2, K0_3, O0_0] <;> rfl))
        | (apply R_grd
           · (simp only [yieldedA, RY, Nat.reduceEqDiff, reduceIte, j4, hi, hi2, o2, hcl, hk, hcs, T3, T5, T30, T57, K0_1, K0_2, K0_3, O0_0] <;> rfl)))
      refine ⟨rfl, by first | rfl | simp only [List.map_cons, List.map_nil, RH, Nat.reduceAdd, Nat.reduceEqDiff, reduceIte, T3, T5, T30, T57, K0_1, K0_2, K0_3, O0_0], by first | rfl | simp only [List.map_cons, List.map_nil, RH, Nat.reduceAdd, Nat.reduceEqDiff, reduceIte, T3, T5, T30, T57, K0_1, K0_2, K0_3, O0_0], by first | (simp only [RH, T3, T5, T30, T57, K0_1, K0_2, K0_3, O0_0]; done) | ((try simp only [RH, T3, T5, T30, T57, K0_1, K0_2, K0_3, O0_0]); omega), ?_⟩
      exact ⟨by (try simp only [List.map_cons, List.map_nil, RH, Nat.reduceAdd, Nat.reduceEqDiff, reduceIte, ev_tmp, ev_const, lit_iv, lit_w8, lit_w32, lit_w64, envOf0, envOf1, envOf2, envOf3, envOf4, envOf5, T3, T5, T30, T57, K0_1, K0_2, K0_3, O0_0]), by simp [RH], by simp [RH, o1]⟩
    · intro e1 h1 hK hO hN ⟨j4, o2, o1⟩
      simp only [List.map_cons, List.map_nil, List.cons.injEq, and_true, RH, Nat.reduceAdd, Nat.reduceEqDiff, reduceIte, envOf0, envOf1, envOf2, envOf3, envOf4, envOf5] at hK
      obtain ⟨K0_1, K0_2, K0_3⟩ := hK
      simp only [List.map_cons, List.map_nil, List.cons.injEq, and_true, RH, Nat.reduceAdd, Nat.reduceEqDiff, reduceIte, envOf0, envOf1, envOf2, envOf3, envOf4, envOf5] at hO
      have O0_0 := hO
      try simp only [RH] at hN
      rw [cpy_full] at o2
      have hl : ((k.drop 16).take 16).length = 16 := by simp; omega
      repeat (first
        | refine R_seq ?_ | refine R_region ?_ | refine R_nil ?_ | refine Q_seq ?_ | refine Q_norm ?_ | refine Q_seqr ?_ | refine Q_seqx ?_ | refine Q_bl ?_ | refine Q_blr ?_ | refine Q_blx ?_ | refine Q_blo rfl ?_ | refine R_block ?_ | refine R_skip ?_ | refine R_exit ?_ | refine R_ret ?_ | refine I_true ?_ | refine I_false ?_ | refine N_exit ?_ | refine N_ret ?_
        | ((first | apply R_op | apply R_op0)
           · (first | (simp (maxDischargeDepth := 9) only [RA, Nat.reduceEqDiff, Nat.reduceLT, Nat.reduceLeDiff, Nat.reduceAdd, Nat.reduceSub, Nat.reduceMul, Nat.reduceDiv, Nat.reduceMod, Nat.reducePow, Nat.reduceBEq, Nat.reduceGT, reduceIte, j4, o2, o1, hl, T3, T5, T30, T57, K0_1, K0_2, K0_3, O0_0] <;> rfl) | ((repeat (first | (simp (maxDischargeDepth := 9) only [RA, Nat.reduceEqDiff, Nat.reduceLT, Nat.reduceLeDiff, Nat.reduceAdd, Nat.reduceSub, Nat.reduceMul, Nat.reduceDiv, Nat.reduceMod, Nat.reducePow, Nat.reduceBEq, Nat.reduceGT, reduceIte, j4, o2, o1, hl, T3, T5, T30, T57, K0_1, K0_2, K0_3, O0_0]; done) | simp (maxDischargeDepth := 9) only [RA, Nat.reduceEqDiff, Nat.reduceLT, Nat.reduceLeDiff, Nat.reduceAdd, Nat.reduceSub, Nat.reduceMul, Nat.reduceDiv, Nat.reduceMod, Nat.reducePow, Nat.reduceBEq, Nat.reduceGT, reduceIte, j4, o2, o1, hl, T3, T5, T30, T57, K0_1, K0_2, K0_3, O0_0] | simp (disch := first | assumption | omega) only [RV, j4, o2, o1, hl, T3, T5, T30, T57, K0_1, K0_2, K0_3, O0_0])) <;> rfl)))
        | (apply R_cond
           · (simp only [RE, Nat.reduceEqDiff, Nat.reduceLT, Nat.reduceLeDiff, Nat.reduceBEq, reduceIte, j4, o2, o1, hl, T3, T5, T30, T57, K0_1, K0_2, K0_3, O0_0] <;> rfl))
        | (apply R_grd
           · (simp only [yieldedA, RY, Nat.reduceEqDiff, reduceIte, j4, o2, o1, hl, T3, T5, T30, T57, K0_1, K0_2, K0_3, O0_0] <;> rfl)))
      (first | refine ⟨.inr rfl, ?_⟩ | refine ⟨.inl rfl, ?_⟩)
      simp only [evResultList, evResult, RA, Nat.reduceEqDiff, Nat.reduceLT, Nat.reduceLeDiff, Nat.reduceAdd, Nat.reduceSub, Nat.reduceMul, Nat.reduceDiv, Nat.reduceMod, Nat.reducePow, Nat.reduceBEq, Nat.reduceGT, reduceIte, cut8 hl, T3, T5, T30, T57, K0_1, K0_2, K0_3, O0_0]
      refine ⟨_, rfl, ?_⟩
      rfl
  obtain ⟨v, h1, e1, rfl⟩ := this
  exact isoPhi_eq (by first | rfl | simp only [List.all_cons, List.all_nil, closed_agg8, closed_agg32, closed_w8, closed_w32, closed_w64, closed_iv, Bool.and_true]) (by first | rfl | simp only [closed_agg8, closed_agg32]) e1
end Go.Proofs.Ytfehhihllenjiaa
