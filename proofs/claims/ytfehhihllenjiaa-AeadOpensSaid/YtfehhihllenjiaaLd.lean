/- Sealed bytes: opened. -/
import Derived.Test.YtfehhihllenjiaaLc
import Derived.Test.YtfehhihllenjiaaLe
set_option linter.all false
namespace Go.Proofs.Ytfehhihllenjiaa
open Go.Proofs
theorem iv_subn {P : Program} {t : TypeId} {l : Bool} {n m : Nat} (h : n < m) (hm : m < 9223372036854775808) : evBin P .sub t l (iv n) (iv m) = some (nv (m - n)) := by
  refine (bin_int (by decide)).trans ?_
  show some (Value.int .i64 (IntKind.i64.wrap ((n : Int) - (m : Int)))) = _
  have : IntKind.i64.wrap ((n : Int) - (m : Int)) = -((m - n : Nat) : Int) := by
    have e1 : (2 : Int) ^ IntKind.i64.bits = 18446744073709551616 := by decide
    have e2 : (2 : Int) ^ (IntKind.i64.bits - 1) = 9223372036854775808 := by decide
    unfold IntKind.wrap
    simp only [e1, e2, show IntKind.i64.signed = true from rfl, Bool.true_and, decide_eq_true_eq]
    split <;> omega
  rw [this]; rfl
theorem nv_lss0 {P : Program} {t : TypeId} {l : Bool} {n : Nat} (h : 0 < n) : evBin P .lss t l (nv n) (iv 0) = some (.bool true) := by
  refine (bin_int (by decide)).trans ?_
  simp only [evIntOp, Option.some.injEq, Value.bool.injEq, decide_eq_true_eq]; omega
attribute [local irreducible] evOps iter evD evF evC evLoad evStore evAlloc evIndexAddr evIndex evLenB evBox evBin evUn evConvert evExtract evSlice evAppend evCopy evNil evBuild evMakeSlice evBuildSlice evBuiltin Program.underlying
attribute [local irreducible] leB padZ framedS block xorS polyT oneT tagS sealS
theorem inl81 : inlOf Try.prog 81 = true := by kernel_rfl
theorem iso81 : isoOf Try.prog 81 = false := by kernel_rfl
set_option maxRecDepth 20000 in
set_option maxHeartbeats 8000000 in
theorem open81s (q : Nat) (h : Heap) (k n' : List (BitVec 8)) (hk : k.length = 32) (hn : n'.length = 12) (v w : Value) (s : List (BitVec 8)) (hb : By h w s) (hs : s.length < 16) :
    ∃ v' h', fcall Try.prog (q + 10) (.func (.func 81) #[] #[]) [.agg ⟨b8 k⟩, .agg ⟨b8 n'⟩, v, w] h = some (.ok v', h') ∧ v' = .tuple #[.slice none 0 0, iv 3] ∧ Fr h.nx h h' := by
  rw [fcall_inl inl81 iso81, evF_eq Try.func81 rfl]
  apply evEnd_of_W
  simp only [Try.f81]
  repeat (first
    | refine R_seq ?_ | refine R_region ?_ | refine R_nil ?_ | refine Q_seq ?_ | refine Q_norm ?_ | refine Q_seqr ?_ | refine Q_seqx ?_ | refine Q_bl ?_ | refine Q_blr ?_ | refine Q_blx ?_ | refine Q_blo rfl ?_ | refine R_block ?_ | refine R_skip ?_ | refine R_exit ?_ | refine R_ret ?_ | refine I_true ?_ | refine I_false ?_ | refine N_exit ?_ | refine N_ret ?_
    | ((first | apply R_op | apply R_op0)
       · ((repeat (first | simp (maxDischargeDepth := 9) only [RA, Nat.reduceEqDiff, Nat.reduceLT, Nat.reduceLeDiff, Nat.reduceAdd, Nat.reduceSub, Nat.reduceMul, Nat.reduceDiv, Nat.reduceMod, Nat.reducePow, Nat.reduceBEq, Nat.reduceGT, reduceIte, hk, hn, cut8 hk, cut8 hn, S38len hb, iv_subn hs (by decide), nv_lss0 (show 0 < 16 - s.length by omega), T3, T4, T22, T30, T32, T38] | simp (disch := first | assumption | omega) only [RV, hk, hn, cut8 hk, cut8 hn, S38len hb, iv_subn hs (by decide), nv_lss0 (show 0 < 16 - s.length by omega)])) <;> rfl))
    | (apply R_cond
       · (simp only [RE, Nat.reduceEqDiff, Nat.reduceLT, Nat.reduceLeDiff, Nat.reduceBEq, reduceIte, hk, hn, cut8 hk, cut8 hn, S38len hb, iv_subn hs (by decide), nv_lss0 (show 0 < 16 - s.length by omega), T3, T4, T22, T30, T32, T38] <;> rfl))
    | (apply R_grd
       · (simp only [yieldedA, RY, Nat.reduceEqDiff, reduceIte, hk, hn, cut8 hk, cut8 hn, S38len hb, iv_subn hs (by decide), nv_lss0 (show 0 < 16 - s.length by omega), T3, T4, T22, T30, T32, T38] <;> rfl)))
  refine ⟨.inr rfl, _, rfl, ?_, by (repeat (first | assumption | exact Fr.refl _ _ | refine Fr.new ?_ ?_ _ _ _ | refine Fr.put ?_ ?_ _ | omega | (simp only [RH]; omega)))⟩
  (try simp only [List.map_cons, List.map_nil, RH, Nat.reduceAdd, Nat.reduceEqDiff, reduceIte, ev_tmp, ev_const, lit_iv, lit_w8, lit_w32, lit_w64, envOf0, envOf1, envOf2, envOf3, envOf4, envOf5, packR, T3, T4, T22, T30, T32, T38])
set_option maxRecDepth 20000 in
set_option maxHeartbeats 8000000 in
theorem open81 (q : Nat) (h : Heap) (k n' : List (BitVec 8)) (hk : k.length = 32) (hn : n'.length = 12) (v w : Value) (a s : List (BitVec 8)) (ha : By h v a) (hb : By h w s) (hal : a.length ≤ 1048576) (hbl : s.length ≤ 1048576) (hs : 16 ≤ s.length) :
    ∃ v' h', fcall Try.prog (q + 11) (.func (.func 81) #[] #[]) [.agg ⟨b8 k⟩, .agg ⟨b8 n'⟩, v, w] h = some (.ok v', h') ∧ (if s.drop (s.length - 16) = tagS k n' a (s.take (s.length - 16)) then ∃ u, v' = .tuple #[u, iv 0] ∧ OwB h.nx h' u (xorS k n' 1#32 (s.take (s.length - 16))) else v' = .tuple #[.slice none 0 0, iv 4]) ∧ Fr h.nx h h' := by
  rw [fcall_inl inl81 iso81, evF_eq Try.func81 rfl]
  apply evEnd_of_W
  simp only [Try.f81]
  repeat (first
    | refine R_seq ?_ | refine R_region ?_ | refine R_nil ?_ | refine Q_seq ?_ | refine Q_norm ?_ | refine Q_seqr ?_ | refine Q_seqx ?_ | refine Q_bl ?_ | refine Q_blr ?_ | refine Q_blx ?_ | refine Q_blo rfl ?_ | refine R_block ?_ | refine R_skip ?_ | refine R_exit ?_ | refine R_ret ?_ | refine I_true ?_ | refine I_false ?_ | refine N_exit ?_ | refine N_ret ?_
    | ((first | apply R_op | apply R_op0)
       · ((repeat (first | simp (maxDischargeDepth := 9) only [RA, Nat.reduceEqDiff, Nat.reduceLT, Nat.reduceLeDiff, Nat.reduceAdd, Nat.reduceSub, Nat.reduceMul, Nat.reduceDiv, Nat.reduceMod, Nat.reducePow, Nat.reduceBEq, Nat.reduceGT, reduceIte, hk, hn, cut8 hk, cut8 hn, S38len hb, hs, T3, T4, T22, T30, T32, T38] | simp (disch := first | assumption | omega) only [RV, hk, hn, cut8 hk, cut8 hn, S38len hb, hs])) <;> rfl))
    | (apply R_cond
       · (simp only [RE, Nat.reduceEqDiff, Nat.reduceLT, Nat.reduceLeDiff, Nat.reduceBEq, reduceIte, hk, hn, cut8 hk, cut8 hn, S38len hb, hs, T3, T4, T22, T30, T32, T38] <;> rfl))
    | (apply R_grd
       · (simp only [yieldedA, RY, Nat.reduceEqDiff, reduceIte, hk, hn, cut8 hk, cut8 hn, S38len hb, hs, T3, T4, T22, T30, T32, T38] <;> rfl)))
  obtain ⟨H, hH⟩ : ∃ H, H = newRowH (newRowH h .rw 1 (b8 k)) .rw 1 (b8 n') := ⟨_, rfl⟩
  rw [← hH]
  have o0 : H.obj h.nx = some (.row .rw 1 (b8 k)) := by rw [hH]; simp [RH]
  have o1 : H.obj (h.nx + 1) = some (.row .rw 1 (b8 n')) := by rw [hH]; simp [RH]
  have nH : H.nx = h.nx + 2 := by rw [hH]; simp only [RH]
  have FH : Fr h.nx h H := by rw [hH]; (repeat (first | assumption | exact Fr.refl _ _ | refine Fr.new ?_ ?_ _ _ _ | refine Fr.put ?_ ?_ _ | omega | (simp only [RH]; omega)))
  clear hH
  have bH := hb.fr0 FH
  have m1 : s.length - 16 ≤ s.length := Nat.sub_le _ _
  have e1 := S38l (l := s.length - 16) bH fr_refl m1
  have e2 := S38h (hh := s.length - 16) bH fr_refl m1
  have s1 := By.subl (l := s.length - 16) bH m1
  have s2 := By.subh (mx := none) (hh := s.length - 16) bH m1 (fun m hm => nomatch hm)
  refine D_draw [2, 3, 4, 8, 9, 10] (fun _ => True) (by kernel_rfl) ?_
  repeat (first
    | refine D_nil ?_ | refine I_true ?_ | refine I_false ?_
    | ((first | apply D_op | apply D_op0)
       · ((repeat (first | simp (maxDischargeDepth := 9) only [RA, Nat.reduceEqDiff, Nat.reduceLT, Nat.reduceLeDiff, Nat.reduceAdd, Nat.reduceSub, Nat.reduceMul, Nat.reduceDiv, Nat.reduceMod, Nat.reducePow, Nat.reduceBEq, Nat.reduceGT, reduceIte, e1, e2, o0, o1, cut8 hk, cut8 hn, T3, T4, T22, T30, T32, T38] | simp (disch := first | assumption | omega) only [RV, e1, e2, o0, o1, cut8 hk, cut8 hn])) <;> rfl)
       · (intro hF; first | exact chk_pure rfl | exact chk_alloc rfl | exact chk_read rfl | exact chk_iso iso48 | exact chk_call iso48 (fun _ _ _ => rfl) | exact chk_iso iso73 | exact chk_call iso73 (fun _ _ _ => rfl) | exact chk_iso iso111 | exact chk_call iso111 (fun _ _ _ => rfl) | (exfalso; revert hF; decide) | ((first | refine chk_load ?_ | refine chk_slice ?_ | refine chk_convert ?_ | refine chk_store ?_ | refine chk_call (by kernel_rfl) ?_); simp only [eq_self, ev_tmp, upd_apply, rowsOfV, List.mem_cons, List.not_mem_nil, or_false, forall_eq, forall_eq_or_imp, obj_put, obj_new, nx_new, nx_put, Nat.reduceEqDiff, if_true, if_false, reduceIte, implies_true, and_self, and_true, true_or, or_true, e1, e2, o0, o1, cut8 hk, cut8 hn, T3, T4, T22, T30, T32, T38])))
    | (apply D_grd
       · (simp only [yieldedA, RY, Nat.reduceEqDiff, reduceIte, e1, e2, o0, o1, cut8 hk, cut8 hn, T3, T4, T22, T30, T32, T38] <;> rfl)))
  refine D_fn ?_ (tag111 (q + 1) H k n' hk hn v _ a (s.take (s.length - 16)) (ha.fr0 FH) s2 hal (by rw [List.length_take]; omega)) iso111 (fun v4 h4 hp _ r _ hr => hp.2.2 r hr) ?_
  · rfl
  intro v2 h2 ⟨b2, F2⟩
  have n2 := F2.1
  have ht := tagS_length k n' a (s.take (s.length - 16))
  repeat (first
    | refine D_nil ?_ | refine I_true ?_ | refine I_false ?_
    | ((first | apply D_op | apply D_op0)
       · ((repeat (first | simp (maxDischargeDepth := 9) only [RA, Nat.reduceEqDiff, Nat.reduceLT, Nat.reduceLeDiff, Nat.reduceAdd, Nat.reduceSub, Nat.reduceMul, Nat.reduceDiv, Nat.reduceMod, Nat.reducePow, Nat.reduceBEq, Nat.reduceGT, reduceIte, T3, T4, T22, T30, T32, T38] | simp (disch := first | assumption | omega) only [RV])) <;> rfl)
       · (intro hF; first | exact chk_pure rfl | exact chk_alloc rfl | exact chk_read rfl | exact chk_iso iso48 | exact chk_call iso48 (fun _ _ _ => rfl) | exact chk_iso iso73 | exact chk_call iso73 (fun _ _ _ => rfl) | exact chk_iso iso111 | exact chk_call iso111 (fun _ _ _ => rfl) | (exfalso; revert hF; decide) | ((first | refine chk_load ?_ | refine chk_slice ?_ | refine chk_convert ?_ | refine chk_store ?_ | refine chk_call (by kernel_rfl) ?_); simp only [eq_self, ev_tmp, upd_apply, rowsOfV, List.mem_cons, List.not_mem_nil, or_false, forall_eq, forall_eq_or_imp, obj_put, obj_new, nx_new, nx_put, Nat.reduceEqDiff, if_true, if_false, reduceIte, implies_true, and_self, and_true, true_or, or_true, T3, T4, T22, T30, T32, T38])))
    | (apply D_grd
       · (simp only [yieldedA, RY, Nat.reduceEqDiff, reduceIte, T3, T4, T22, T30, T32, T38] <;> rfl)))
  refine D_fn ?_ (equal73 (q + 9) h2 _ v2 (s.drop (s.length - 16)) (tagS k n' a (s.take (s.length - 16))) (s1.fr0 F2) b2 (by simp; omega) (by omega)) iso73 (fun v4 h4 hp _ r _ hr => hp.2.2 r hr) ?_
  · rfl
  intro v3 h3 ⟨hv3, F3⟩
  subst hv3
  have n3 := F3.1
  have G3 := FH.trans ((F2.le (by omega)).trans (F3.le (by omega)))
  repeat (first
    | refine D_nil ?_ | refine I_true ?_ | refine I_false ?_
    | ((first | apply D_op | apply D_op0)
       · ((repeat (first | simp (maxDischargeDepth := 9) only [RA, Nat.reduceEqDiff, Nat.reduceLT, Nat.reduceLeDiff, Nat.reduceAdd, Nat.reduceSub, Nat.reduceMul, Nat.reduceDiv, Nat.reduceMod, Nat.reducePow, Nat.reduceBEq, Nat.reduceGT, reduceIte, T3, T4, T22, T30, T32, T38] | simp (disch := first | assumption | omega) only [RV])) <;> rfl)
       · (intro hF; first | exact chk_pure rfl | exact chk_alloc rfl | exact chk_read rfl | exact chk_iso iso48 | exact chk_call iso48 (fun _ _ _ => rfl) | exact chk_iso iso73 | exact chk_call iso73 (fun _ _ _ => rfl) | exact chk_iso iso111 | exact chk_call iso111 (fun _ _ _ => rfl) | (exfalso; revert hF; decide) | ((first | refine chk_load ?_ | refine chk_slice ?_ | refine chk_convert ?_ | refine chk_store ?_ | refine chk_call (by kernel_rfl) ?_); simp only [eq_self, ev_tmp, upd_apply, rowsOfV, List.mem_cons, List.not_mem_nil, or_false, forall_eq, forall_eq_or_imp, obj_put, obj_new, nx_new, nx_put, Nat.reduceEqDiff, if_true, if_false, reduceIte, implies_true, and_self, and_true, true_or, or_true, T3, T4, T22, T30, T32, T38])))
    | (apply D_grd
       · (simp only [yieldedA, RY, Nat.reduceEqDiff, reduceIte, T3, T4, T22, T30, T32, T38] <;> rfl)))
  by_cases hc : s.drop (s.length - 16) = tagS k n' a (s.take (s.length - 16))
  · have e3 := S38h (hh := s.length - 16) ((bH.fr0 F2).fr0 (F3.le (by omega))) fr_refl m1
    have s3 := By.subh (mx := none) (hh := s.length - 16) ((bH.fr0 F2).fr0 (F3.le (by omega))) m1 (fun m hm => nomatch hm)
    have q0 := (F2.trans (F3.le (by omega))).2 h.nx (by omega)
    rw [o0] at q0
    have q1 := (F2.trans (F3.le (by omega))).2 (h.nx + 1) (by omega)
    rw [o1] at q1
    repeat (first
      | refine R_seq ?_ | refine R_region ?_ | refine R_nil ?_ | refine Q_seq ?_ | refine Q_norm ?_ | refine Q_seqr ?_ | refine Q_seqx ?_ | refine Q_bl ?_ | refine Q_blr ?_ | refine Q_blx ?_ | refine Q_blo rfl ?_ | refine R_block ?_ | refine R_skip ?_ | refine R_exit ?_ | refine R_ret ?_ | refine I_true ?_ | refine I_false ?_ | refine N_exit ?_ | refine N_ret ?_
      | ((first | apply R_op | apply R_op0)
         · ((repeat (first | simp (maxDischargeDepth := 9) only [RA, Nat.reduceEqDiff, Nat.reduceLT, Nat.reduceLeDiff, Nat.reduceAdd, Nat.reduceSub, Nat.reduceMul, Nat.reduceDiv, Nat.reduceMod, Nat.reducePow, Nat.reduceBEq, Nat.reduceGT, reduceIte, eq_true hc, T3, T4, T22, T30, T32, T38] | simp (disch := first | assumption | omega) only [RV, eq_true hc])) <;> rfl))
      | (apply R_cond
         · (simp only [RE, Nat.reduceEqDiff, Nat.reduceLT, Nat.reduceLeDiff, Nat.reduceBEq, reduceIte, eq_true hc, T3, T4, T22, T30, T32, T38] <;> rfl))
      | (apply R_grd
         · (simp only [yieldedA, RY, Nat.reduceEqDiff, reduceIte, eq_true hc, T3, T4, T22, T30, T32, T38] <;> rfl)))
    refine D_draw [0, 1, 4, 5] (fun _ => True) (by kernel_rfl) ?_
    repeat (first
      | refine D_nil ?_ | refine I_true ?_ | refine I_false ?_
      | ((first | apply D_op | apply D_op0)
         · ((repeat (first | simp (maxDischargeDepth := 9) only [RA, Nat.reduceEqDiff, Nat.reduceLT, Nat.reduceLeDiff, Nat.reduceAdd, Nat.reduceSub, Nat.reduceMul, Nat.reduceDiv, Nat.reduceMod, Nat.reducePow, Nat.reduceBEq, Nat.reduceGT, reduceIte, e3, q0, q1, cut8 hk, cut8 hn, T3, T4, T22, T30, T32, T38] | simp (disch := first | assumption | omega) only [RV, e3, q0, q1, cut8 hk, cut8 hn])) <;> rfl)
         · (intro hF; first | exact chk_pure rfl | exact chk_alloc rfl | exact chk_read rfl | exact chk_iso iso48 | exact chk_call iso48 (fun _ _ _ => rfl) | exact chk_iso iso73 | exact chk_call iso73 (fun _ _ _ => rfl) | exact chk_iso iso111 | exact chk_call iso111 (fun _ _ _ => rfl) | (exfalso; revert hF; decide) | ((first | refine chk_load ?_ | refine chk_slice ?_ | refine chk_convert ?_ | refine chk_store ?_ | refine chk_call (by kernel_rfl) ?_); simp only [eq_self, ev_tmp, upd_apply, rowsOfV, List.mem_cons, List.not_mem_nil, or_false, forall_eq, forall_eq_or_imp, obj_put, obj_new, nx_new, nx_put, Nat.reduceEqDiff, if_true, if_false, reduceIte, implies_true, and_self, and_true, true_or, or_true, e3, q0, q1, cut8 hk, cut8 hn, T3, T4, T22, T30, T32, T38])))
      | (apply D_grd
         · (simp only [yieldedA, RY, Nat.reduceEqDiff, reduceIte, e3, q0, q1, cut8 hk, cut8 hn, T3, T4, T22, T30, T32, T38] <;> rfl)))
    refine D_fn ?_ (xor48 (q + 3) h3 k n' hk hn 1#32 _ (s.take (s.length - 16)) s3 (by rw [List.length_take]; omega)) iso48 (fun v4 h4 hp _ r _ hr => hp.2.2 r hr) ?_
    · rfl
    intro v5 h5 ⟨own5, F5⟩
    repeat (first
      | refine D_nil ?_ | refine I_true ?_ | refine I_false ?_
      | ((first | apply D_op | apply D_op0)
         · ((repeat (first | simp (maxDischargeDepth := 9) only [RA, Nat.reduceEqDiff, Nat.reduceLT, Nat.reduceLeDiff, Nat.reduceAdd, Nat.reduceSub, Nat.reduceMul, Nat.reduceDiv, Nat.reduceMod, Nat.reducePow, Nat.reduceBEq, Nat.reduceGT, reduceIte, T3, T4, T22, T30, T32, T38] | simp (disch := first | assumption | omega) only [RV])) <;> rfl)
         · (intro hF; first | exact chk_pure rfl | exact chk_alloc rfl | exact chk_read rfl | exact chk_iso iso48 | exact chk_call iso48 (fun _ _ _ => rfl) | exact chk_iso iso73 | exact chk_call iso73 (fun _ _ _ => rfl) | exact chk_iso iso111 | exact chk_call iso111 (fun _ _ _ => rfl) | (exfalso; revert hF; decide) | ((first | refine chk_load ?_ | refine chk_slice ?_ | refine chk_convert ?_ | refine chk_store ?_ | refine chk_call (by kernel_rfl) ?_); simp only [eq_self, ev_tmp, upd_apply, rowsOfV, List.mem_cons, List.not_mem_nil, or_false, forall_eq, forall_eq_or_imp, obj_put, obj_new, nx_new, nx_put, Nat.reduceEqDiff, if_true, if_false, reduceIte, implies_true, and_self, and_true, true_or, or_true, T3, T4, T22, T30, T32, T38])))
      | (apply D_grd
         · (simp only [yieldedA, RY, Nat.reduceEqDiff, reduceIte, T3, T4, T22, T30, T32, T38] <;> rfl)))
    repeat (first
      | refine R_seq ?_ | refine R_region ?_ | refine R_nil ?_ | refine Q_seq ?_ | refine Q_norm ?_ | refine Q_seqr ?_ | refine Q_seqx ?_ | refine Q_bl ?_ | refine Q_blr ?_ | refine Q_blx ?_ | refine Q_blo rfl ?_ | refine R_block ?_ | refine R_skip ?_ | refine R_exit ?_ | refine R_ret ?_ | refine I_true ?_ | refine I_false ?_ | refine N_exit ?_ | refine N_ret ?_
      | ((first | apply R_op | apply R_op0)
         · ((repeat (first | simp (maxDischargeDepth := 9) only [RA, Nat.reduceEqDiff, Nat.reduceLT, Nat.reduceLeDiff, Nat.reduceAdd, Nat.reduceSub, Nat.reduceMul, Nat.reduceDiv, Nat.reduceMod, Nat.reducePow, Nat.reduceBEq, Nat.reduceGT, reduceIte, T3, T4, T22, T30, T32, T38] | simp (disch := first | assumption | omega) only [RV])) <;> rfl))
      | (apply R_cond
         · (simp only [RE, Nat.reduceEqDiff, Nat.reduceLT, Nat.reduceLeDiff, Nat.reduceBEq, reduceIte, T3, T4, T22, T30, T32, T38] <;> rfl))
      | (apply R_grd
         · (simp only [yieldedA, RY, Nat.reduceEqDiff, reduceIte, T3, T4, T22, T30, T32, T38] <;> rfl)))
    refine ⟨.inr rfl, _, rfl, ?_, G3.trans (F5.le (by omega))⟩
    rw [if_pos hc]
    refine ⟨v5, ?_, own5.le (by omega)⟩
    (try simp only [List.map_cons, List.map_nil, RH, Nat.reduceAdd, Nat.reduceEqDiff, reduceIte, ev_tmp, ev_const, lit_iv, lit_w8, lit_w32, lit_w64, envOf0, envOf1, envOf2, envOf3, envOf4, envOf5, packR, T3, T4, T22, T30, T32, T38])
  · repeat (first
    | refine R_seq ?_ | refine R_region ?_ | refine R_nil ?_ | refine Q_seq ?_ | refine Q_norm ?_ | refine Q_seqr ?_ | refine Q_seqx ?_ | refine Q_bl ?_ | refine Q_blr ?_ | refine Q_blx ?_ | refine Q_blo rfl ?_ | refine R_block ?_ | refine R_skip ?_ | refine R_exit ?_ | refine R_ret ?_ | refine I_true ?_ | refine I_false ?_ | refine N_exit ?_ | refine N_ret ?_
    | ((first | apply R_op | apply R_op0)
       · ((repeat (first | simp (maxDischargeDepth := 9) only [RA, Nat.reduceEqDiff, Nat.reduceLT, Nat.reduceLeDiff, Nat.reduceAdd, Nat.reduceSub, Nat.reduceMul, Nat.reduceDiv, Nat.reduceMod, Nat.reducePow, Nat.reduceBEq, Nat.reduceGT, reduceIte, eq_false hc, T3, T4, T22, T30, T32, T38] | simp (disch := first | assumption | omega) only [RV, eq_false hc])) <;> rfl))
    | (apply R_cond
       · (simp only [RE, Nat.reduceEqDiff, Nat.reduceLT, Nat.reduceLeDiff, Nat.reduceBEq, reduceIte, eq_false hc, T3, T4, T22, T30, T32, T38] <;> rfl))
    | (apply R_grd
       · (simp only [yieldedA, RY, Nat.reduceEqDiff, reduceIte, eq_false hc, T3, T4, T22, T30, T32, T38] <;> rfl)))
    refine ⟨.inr rfl, _, rfl, ?_, G3⟩
    rw [if_neg hc]
    (try simp only [List.map_cons, List.map_nil, RH, Nat.reduceAdd, Nat.reduceEqDiff, reduceIte, ev_tmp, ev_const, lit_iv, lit_w8, lit_w32, lit_w64, envOf0, envOf1, envOf2, envOf3, envOf4, envOf5, packR, T3, T4, T22, T30, T32, T38])
end Go.Proofs.Ytfehhihllenjiaa
