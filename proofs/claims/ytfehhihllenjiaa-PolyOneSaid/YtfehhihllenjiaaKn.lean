/- One-time tags: the second half is added. -/
import Derived.Test.YtfehhihllenjiaaKk
set_option linter.all false
namespace Go.Proofs.Ytfehhihllenjiaa
open Go.Proofs
theorem W.bjoin {id : Nat} {o : Option (X × Env × Heap)} {k : Env → Heap → Prop} {Q : Post} (M : Env → Heap → Prop) (hw : W o fun x e h => x = .exit id ∧ M e h) (hk : ∀ e h, M e h → k e h) : W o (blockQ id (seqQ k Q)) :=
  hw.mono fun x e h ⟨hx, hm⟩ => by
    subst hx
    exact Q_blx (Q_seq (hk e h hm))
def zl (T : List (BitVec 8)) (i : Nat) : List (BitVec 8) := List.replicate i 0#8 ++ T.drop i
theorem zl_length {T : List (BitVec 8)} {i : Nat} (h : i ≤ T.length) : (zl T i).length = T.length := by simp [zl]; omega
theorem zl_get {T : List (BitVec 8)} {i : Nat} : (zl T i).getD i 0#8 = T.getD i 0#8 := by
  unfold zl
  rw [List.getD_eq_getElem?_getD, List.getElem?_append_right (by simp), List.length_replicate, Nat.sub_self, List.getElem?_drop, Nat.add_zero, List.getD_eq_getElem?_getD]
theorem zl_drop {T : List (BitVec 8)} {i : Nat} (h : i < T.length) : T.drop i = T.getD i 0#8 :: T.drop (i + 1) := by
  rw [List.drop_eq_getElem_cons h, List.getD_eq_getElem?_getD, List.getElem?_eq_getElem h]; rfl
theorem zl_set {T : List (BitVec 8)} {i : Nat} (h : i < T.length) (z : BitVec 8) : (zl T i).set i z = List.replicate i 0#8 ++ z :: T.drop (i + 1) := by
  unfold zl
  rw [List.set_append_right _ _ (by simp), List.length_replicate, Nat.sub_self, zl_drop h, List.set_cons_zero]
theorem zl_out {T : List (BitVec 8)} {i : Nat} (h : i < T.length) (hi : incB T = List.replicate i 0#8 ++ incB (T.drop i)) (hz : ¬ T.getD i 0#8 + 1#8 = 0#8) : (zl T i).set i (T.getD i 0#8 + 1#8) = incB T := by
  rw [zl_set h, hi, zl_drop h, incB_cons, if_neg hz]
theorem zl_next {T : List (BitVec 8)} {i : Nat} (h : i < T.length) (hz : T.getD i 0#8 + 1#8 = 0#8) : (zl T i).set i (T.getD i 0#8 + 1#8) = zl T (i + 1) := by
  rw [zl_set h, hz]
  unfold zl
  rw [List.replicate_succ', List.append_assoc]; rfl
theorem zl_inc {T : List (BitVec 8)} {i : Nat} (h : i < T.length) (hi : incB T = List.replicate i 0#8 ++ incB (T.drop i)) (hz : T.getD i 0#8 + 1#8 = 0#8) : incB T = List.replicate (i + 1) 0#8 ++ incB (T.drop (i + 1)) := by
  rw [hi, zl_drop h, incB_cons, if_pos hz, List.replicate_succ', List.append_assoc]; rfl
theorem incB_nil : incB [] = [] := rfl
theorem incB_length (l : List (BitVec 8)) : (incB l).length = l.length := by
  induction l with
  | nil => rfl
  | cons x l ih => rw [incB_cons]; split <;> simp [ih]
theorem get_set16 {k : List (BitVec 8)} {i : Nat} (hi : i < 16) (z : BitVec 8) : (k.set 16 z).getD i 0#8 = k.getD i 0#8 := by
  rw [List.getD_eq_getElem?_getD, List.getElem?_set_ne (by omega), List.getD_eq_getElem?_getD]
theorem poly_inc16 {k : List (BitVec 8)} (hk : k.length = 32) (h : k.getD 16 0#8 ≠ 255#8) (b : List (BitVec 8)) : polyT (k.set 16 (k.getD 16 0#8 + 1#8)) b = incB (polyT k b) := by
  refine polyT_inc b (clampB_ext fun i hi => by rw [get_set16 hi]) ?_
  have e : k.drop 16 = k.getD 16 0#8 :: k.drop 17 := zl_drop (by omega)
  have e2 : (k.set 16 (k.getD 16 0#8 + 1#8)).drop 16 = (k.getD 16 0#8 + 1#8) :: k.drop 17 := by
    rw [zl_drop (by simp; omega), List.getD_eq_getElem?_getD, List.getElem?_set_self (by omega)]
    congr 1
    rw [List.drop_set_of_lt (by omega)]
  rw [e, e2, List.take_succ_cons, List.take_succ_cons, leN_cons, leN_cons]
  have hx := (k.getD 16 0#8).isLt
  have hne : (k.getD 16 0#8).toNat ≠ 255 := fun hh => h (BitVec.eq_of_toNat_eq hh)
  rw [BitVec.toNat_add, show (1#8).toNat = 1 from rfl]
  omega
attribute [local irreducible] evOps iter evD evF evC evLoad evStore evAlloc evIndexAddr evIndex evLenB evBox evBin evUn evConvert evExtract evSlice evAppend evCopy evNil evBuild evMakeSlice evBuildSlice evBuiltin Program.underlying
attribute [local irreducible] polyT pkL pbL ptL clampB cpy incB zl
set_option maxRecDepth 20000 in
set_option maxHeartbeats 8000000 in
theorem law22 (h : Heap) (k : List (BitVec 8)) (hk : k.length = 32) (w : Value) (b : List (BitVec 8)) (hb : By h w b) : ∃ v1 h1, evF (cfg0 Try.prog) 13 22 [.agg ⟨b8 k⟩, w] h = some (.ok v1, h1) ∧ v1 = .bool true := by
  rw [evF_eq Try.func22 rfl]
  apply evEnd_of_W
  simp only [Try.f22]
  obtain ⟨v2, e2, b2, r2⟩ := few61 11 (newRowH h .rw 1 (b8 k)) w b 300 (hb.fr0 (by (repeat (first | assumption | exact Fr.refl _ _ | refine Fr.new ?_ ?_ _ _ _ | refine Fr.put ?_ ?_ _ | omega | (simp only [RH]; omega)))))
  have h16 : (16 : Nat) < 32 := by decide
  repeat (first
    | refine R_seq ?_ | refine R_region ?_ | refine R_nil ?_ | refine Q_seq ?_ | refine Q_norm ?_ | refine Q_seqr ?_ | refine Q_seqx ?_ | refine Q_bl ?_ | refine Q_blr ?_ | refine Q_blx ?_ | refine Q_blo rfl ?_ | refine R_block ?_ | refine R_skip ?_ | refine R_exit ?_ | refine R_ret ?_ | refine I_true ?_ | refine I_false ?_ | refine N_exit ?_ | refine N_ret ?_
    | ((first | apply R_op | apply R_op0)
       · (first | (simp (maxDischargeDepth := 9) only [RA, Nat.reduceEqDiff, Nat.reduceLT, Nat.reduceLeDiff, Nat.reduceAdd, Nat.reduceSub, Nat.reduceMul, Nat.reduceDiv, Nat.reduceMod, Nat.reducePow, Nat.reduceBEq, Nat.reduceGT, reduceIte, e2, hk, T3, T5, T30, T38, T57] <;> rfl) | ((repeat (first | (simp (maxDischargeDepth := 9) only [RA, Nat.reduceEqDiff, Nat.reduceLT, Nat.reduceLeDiff, Nat.reduceAdd, Nat.reduceSub, Nat.reduceMul, Nat.reduceDiv, Nat.reduceMod, Nat.reducePow, Nat.reduceBEq, Nat.reduceGT, reduceIte, e2, hk, T3, T5, T30, T38, T57]; done) | simp (maxDischargeDepth := 9) only [RA, Nat.reduceEqDiff, Nat.reduceLT, Nat.reduceLeDiff, Nat.reduceAdd, Nat.reduceSub, Nat.reduceMul, Nat.reduceDiv, Nat.reduceMod, Nat.reducePow, Nat.reduceBEq, Nat.reduceGT, reduceIte, e2, hk, T3, T5, T30, T38, T57] | simp (disch := first | assumption | omega) only [RV, e2, hk, T3, T5, T30, T38, T57])) <;> rfl)))
    | (apply R_cond
       · (simp only [RE, Nat.reduceEqDiff, Nat.reduceLT, Nat.reduceLeDiff, Nat.reduceBEq, reduceIte, e2, hk, T3, T5, T30, T38, T57] <;> rfl))
    | (apply R_grd
       · (simp only [yieldedA, RY, Nat.reduceEqDiff, reduceIte, e2, hk, T3, T5, T30, T38, T57] <;> rfl)))
  have hbl : (b.take 300).length ≤ 300 := by simp; omega
  generalize b.take 300 = b at b2 hbl
  refine I_join (fun e1 h1 => e1 1 = v2 ∧ e1 2 = .pointer (some ⟨h.nx, 0, none⟩) ∧ e1 39 = envOf [.agg ⟨b8 k⟩, w] 39 ∧ e1 40 = envOf [.agg ⟨b8 k⟩, w] 40 ∧ e1 41 = envOf [.agg ⟨b8 k⟩, w] 41 ∧ h1.nx = h.nx + 1 ∧ By h1 v2 b ∧ ∃ k2, k2.length = 32 ∧ k2.getD 16 0#8 ≠ 255#8 ∧ h1.obj h.nx = some (.row .rw 1 (b8 k2))) ?_ ?_ ?_
  · intro hc
    repeat (first
      | refine R_seq ?_ | refine R_region ?_ | refine R_nil ?_ | refine Q_seq ?_ | refine Q_norm ?_ | refine Q_seqr ?_ | refine Q_seqx ?_ | refine Q_bl ?_ | refine Q_blr ?_ | refine Q_blx ?_ | refine Q_blo rfl ?_ | refine R_block ?_ | refine R_skip ?_ | refine R_exit ?_ | refine R_ret ?_ | refine I_true ?_ | refine I_false ?_ | refine N_exit ?_ | refine N_ret ?_
      | ((first | apply R_op | apply R_op0)
         · (first | (simp (maxDischargeDepth := 9) only [RA, Nat.reduceEqDiff, Nat.reduceLT, Nat.reduceLeDiff, Nat.reduceAdd, Nat.reduceSub, Nat.reduceMul, Nat.reduceDiv, Nat.reduceMod, Nat.reducePow, Nat.reduceBEq, Nat.reduceGT, reduceIte, hk, T3, T5, T30, T38, T57] <;> rfl) | ((repeat (first | (simp (maxDischargeDepth := 9) only [RA, Nat.reduceEqDiff, Nat.reduceLT, Nat.reduceLeDiff, Nat.reduceAdd, Nat.reduceSub, Nat.reduceMul, Nat.reduceDiv, Nat.reduceMod, Nat.reducePow, Nat.reduceBEq, Nat.reduceGT, reduceIte, hk, T3, T5, T30, T38, T57]; done) | simp (maxDischargeDepth := 9) only [RA, Nat.reduceEqDiff, Nat.reduceLT, Nat.reduceLeDiff, Nat.reduceAdd, Nat.reduceSub, Nat.reduceMul, Nat.reduceDiv, Nat.reduceMod, Nat.reducePow, Nat.reduceBEq, Nat.reduceGT, reduceIte, hk, T3, T5, T30, T38, T57] | simp (disch := first | assumption | omega) only [RV, hk, T3, T5, T30, T38, T57])) <;> rfl)))
      | (apply R_cond
         · (simp only [RE, Nat.reduceEqDiff, Nat.reduceLT, Nat.reduceLeDiff, Nat.reduceBEq, reduceIte, hk, T3, T5, T30, T38, T57] <;> rfl))
      | (apply R_grd
         · (simp only [yieldedA, RY, Nat.reduceEqDiff, reduceIte, hk, T3, T5, T30, T38, T57] <;> rfl)))
    refine ⟨rfl, by (try simp only [List.map_cons, List.map_nil, RH, Nat.reduceAdd, Nat.reduceEqDiff, reduceIte, ev_tmp, ev_const, lit_iv, lit_w8, lit_w32, lit_w64, envOf0, envOf1, envOf2, envOf3, envOf4, envOf5, T3, T5, T30, T38, T57]), by (try simp only [List.map_cons, List.map_nil, RH, Nat.reduceAdd, Nat.reduceEqDiff, reduceIte, ev_tmp, ev_const, lit_iv, lit_w8, lit_w32, lit_w64, envOf0, envOf1, envOf2, envOf3, envOf4, envOf5, T3, T5, T30, T38, T57]), by (try simp only [List.map_cons, List.map_nil, RH, Nat.reduceAdd, Nat.reduceEqDiff, reduceIte, ev_tmp, ev_const, lit_iv, lit_w8, lit_w32, lit_w64, envOf0, envOf1, envOf2, envOf3, envOf4, envOf5, T3, T5, T30, T38, T57]), by (try simp only [List.map_cons, List.map_nil, RH, Nat.reduceAdd, Nat.reduceEqDiff, reduceIte, ev_tmp, ev_const, lit_iv, lit_w8, lit_w32, lit_w64, envOf0, envOf1, envOf2, envOf3, envOf4, envOf5, T3, T5, T30, T38, T57]), by (try simp only [List.map_cons, List.map_nil, RH, Nat.reduceAdd, Nat.reduceEqDiff, reduceIte, ev_tmp, ev_const, lit_iv, lit_w8, lit_w32, lit_w64, envOf0, envOf1, envOf2, envOf3, envOf4, envOf5, T3, T5, T30, T38, T57]), by simp [RH], b2.keep (by simp [RH]) (fun r hr => by have := hb.lt r (r2 r hr); rw [obj_put, if_neg (by omega)]), k.set 16 0#8, by simp [hk], ?_, by simp [RH]⟩
    rw [List.getD_eq_getElem?_getD, List.getElem?_set_self (by omega)]
    decide
  · intro hc
    repeat (first
      | refine R_seq ?_ | refine R_region ?_ | refine R_nil ?_ | refine Q_seq ?_ | refine Q_norm ?_ | refine Q_seqr ?_ | refine Q_seqx ?_ | refine Q_bl ?_ | refine Q_blr ?_ | refine Q_blx ?_ | refine Q_blo rfl ?_ | refine R_block ?_ | refine R_skip ?_ | refine R_exit ?_ | refine R_ret ?_ | refine I_true ?_ | refine I_false ?_ | refine N_exit ?_ | refine N_ret ?_
      | ((first | apply R_op | apply R_op0)
         · (first | (simp (maxDischargeDepth := 9) only [RA, Nat.reduceEqDiff, Nat.reduceLT, Nat.reduceLeDiff, Nat.reduceAdd, Nat.reduceSub, Nat.reduceMul, Nat.reduceDiv, Nat.reduceMod, Nat.reducePow, Nat.reduceBEq, Nat.reduceGT, reduceIte, hk, T3, T5, T30, T38, T57] <;> rfl) | ((repeat (first | (simp (maxDischargeDepth := 9) only [RA, Nat.reduceEqDiff, Nat.reduceLT, Nat.reduceLeDiff, Nat.reduceAdd, Nat.reduceSub, Nat.reduceMul, Nat.reduceDiv, Nat.reduceMod, Nat.reducePow, Nat.reduceBEq, Nat.reduceGT, reduceIte, hk, T3, T5, T30, T38, T57]; done) | simp (maxDischargeDepth := 9) only [RA, Nat.reduceEqDiff, Nat.reduceLT, Nat.reduceLeDiff, Nat.reduceAdd, Nat.reduceSub, Nat.reduceMul, Nat.reduceDiv, Nat.reduceMod, Nat.reducePow, Nat.reduceBEq, Nat.reduceGT, reduceIte, hk, T3, T5, T30, T38, T57] | simp (disch := first | assumption | omega) only [RV, hk, T3, T5, T30, T38, T57])) <;> rfl)))
      | (apply R_cond
         · (simp only [RE, Nat.reduceEqDiff, Nat.reduceLT, Nat.reduceLeDiff, Nat.reduceBEq, reduceIte, hk, T3, T5, T30, T38, T57] <;> rfl))
      | (apply R_grd
         · (simp only [yieldedA, RY, Nat.reduceEqDiff, reduceIte, hk, T3, T5, T30, T38, T57] <;> rfl)))
    exact ⟨rfl, by (try simp only [List.map_cons, List.map_nil, RH, Nat.reduceAdd, Nat.reduceEqDiff, reduceIte, ev_tmp, ev_const, lit_iv, lit_w8, lit_w32, lit_w64, envOf0, envOf1, envOf2, envOf3, envOf4, envOf5, T3, T5, T30, T38, T57]), by (try simp only [List.map_cons, List.map_nil, RH, Nat.reduceAdd, Nat.reduceEqDiff, reduceIte, ev_tmp, ev_const, lit_iv, lit_w8, lit_w32, lit_w64, envOf0, envOf1, envOf2, envOf3, envOf4, envOf5, T3, T5, T30, T38, T57]), by (try simp only [List.map_cons, List.map_nil, RH, Nat.reduceAdd, Nat.reduceEqDiff, reduceIte, ev_tmp, ev_const, lit_iv, lit_w8, lit_w32, lit_w64, envOf0, envOf1, envOf2, envOf3, envOf4, envOf5, T3, T5, T30, T38, T57]), by (try simp only [List.map_cons, List.map_nil, RH, Nat.reduceAdd, Nat.reduceEqDiff, reduceIte, ev_tmp, ev_const, lit_iv, lit_w8, lit_w32, lit_w64, envOf0, envOf1, envOf2, envOf3, envOf4, envOf5, T3, T5, T30, T38, T57]), by (try simp only [List.map_cons, List.map_nil, RH, Nat.reduceAdd, Nat.reduceEqDiff, reduceIte, ev_tmp, ev_const, lit_iv, lit_w8, lit_w32, lit_w64, envOf0, envOf1, envOf2, envOf3, envOf4, envOf5, T3, T5, T30, T38, T57]), by simp [RH], b2, k, hk, hc, by simp [RH]⟩
  intro e1 h1 ⟨m1, m2, m39, m40, m41, n1, b1, k2, hk2, hne, o1⟩
  have hck := fun (kd : Kind) (es : Nat) => cut8 (k := kd) (es := es) hk2
  repeat (first
    | refine R_seq ?_ | refine R_region ?_ | refine R_nil ?_ | refine Q_seq ?_ | refine Q_norm ?_ | refine Q_seqr ?_ | refine Q_seqx ?_ | refine Q_bl ?_ | refine Q_blr ?_ | refine Q_blx ?_ | refine Q_blo rfl ?_ | refine R_block ?_ | refine R_skip ?_ | refine R_exit ?_ | refine R_ret ?_ | refine I_true ?_ | refine I_false ?_ | refine N_exit ?_ | refine N_ret ?_
    | ((first | apply R_op | apply R_op0)
       · (first | (simp (maxDischargeDepth := 9) only [RA, Nat.reduceEqDiff, Nat.reduceLT, Nat.reduceLeDiff, Nat.reduceAdd, Nat.reduceSub, Nat.reduceMul, Nat.reduceDiv, Nat.reduceMod, Nat.reducePow, Nat.reduceBEq, Nat.reduceGT, reduceIte, m1, m2, o1, hck, T3, T5, T30, T38, T57] <;> rfl) | ((repeat (first | (simp (maxDischargeDepth := 9) only [RA, Nat.reduceEqDiff, Nat.reduceLT, Nat.reduceLeDiff, Nat.reduceAdd, Nat.reduceSub, Nat.reduceMul, Nat.reduceDiv, Nat.reduceMod, Nat.reducePow, Nat.reduceBEq, Nat.reduceGT, reduceIte, m1, m2, o1, hck, T3, T5, T30, T38, T57]; done) | simp (maxDischargeDepth := 9) only [RA, Nat.reduceEqDiff, Nat.reduceLT, Nat.reduceLeDiff, Nat.reduceAdd, Nat.reduceSub, Nat.reduceMul, Nat.reduceDiv, Nat.reduceMod, Nat.reducePow, Nat.reduceBEq, Nat.reduceGT, reduceIte, m1, m2, o1, hck, T3, T5, T30, T38, T57] | simp (disch := first | assumption | omega) only [RV, m1, m2, o1, hck, T3, T5, T30, T38, T57])) <;> rfl)))
    | (apply R_cond
       · (simp only [RE, Nat.reduceEqDiff, Nat.reduceLT, Nat.reduceLeDiff, Nat.reduceBEq, reduceIte, m1, m2, o1, hck, T3, T5, T30, T38, T57] <;> rfl))
    | (apply R_grd
       · (simp only [yieldedA, RY, Nat.reduceEqDiff, reduceIte, m1, m2, o1, hck, T3, T5, T30, T38, T57] <;> rfl)))
  refine R_fn ?_ (sum63 4 h1 k2 hk2 v2 b b1 (by omega)) ?_
  · rfl
  intro v3 h3 ⟨hv3, F3⟩
  subst hv3
  have n3 := F3.1
  have o3 := F3.2 h.nx (by omega)
  rw [o1] at o3
  have hT := polyT_length k2 b
  have hinc := poly_inc16 hk2 hne b
  have hk3 : (k2.set 16 (k2.getD 16 0#8 + 1#8)).length = 32 := by simp [hk2]
  have hck3 := fun (kd : Kind) (es : Nat) => cut8 (k := kd) (es := es) hk3
  have hp := fun (H : Heap) (p : Nat) => puts8 (h := H) (b := p) (es := 1) hT (List.length_replicate (n := 16) (a := 0#8))
  have c1 : (h.nx = h3.nx) = False := eq_false (by omega)
  generalize polyT k2 b = tg at hT hinc hp ⊢
  repeat (first
    | refine R_seq ?_ | refine R_region ?_ | refine R_nil ?_ | refine Q_seq ?_ | refine Q_norm ?_ | refine Q_seqr ?_ | refine Q_seqx ?_ | refine Q_bl ?_ | refine Q_blr ?_ | refine Q_blx ?_ | refine Q_blo rfl ?_ | refine R_block ?_ | refine R_skip ?_ | refine R_exit ?_ | refine R_ret ?_ | refine I_true ?_ | refine I_false ?_ | refine N_exit ?_ | refine N_ret ?_
    | ((first | apply R_op | apply R_op0)
       · (first | (simp (maxDischargeDepth := 9) only [RA, Nat.reduceEqDiff, Nat.reduceLT, Nat.reduceLeDiff, Nat.reduceAdd, Nat.reduceSub, Nat.reduceMul, Nat.reduceDiv, Nat.reduceMod, Nat.reducePow, Nat.reduceBEq, Nat.reduceGT, reduceIte, m1, m2, o3, hck3, hp, c1, hk2, T3, T5, T30, T38, T57] <;> rfl) | ((repeat (first | (simp (maxDischargeDepth := 9) only [RA, Nat.reduceEqDiff, Nat.reduceLT, Nat.reduceLeDiff, Nat.reduceAdd, Nat.reduceSub, Nat.reduceMul, Nat.reduceDiv, Nat.reduceMod, Nat.reducePow, Nat.reduceBEq, Nat.reduceGT, reduceIte, m1, m2, o3, hck3, hp, c1, hk2, T3, T5, T30, T38, T57]; done) | simp (maxDischargeDepth := 9) only [RA, Nat.reduceEqDiff, Nat.reduceLT, Nat.reduceLeDiff, Nat.reduceAdd, Nat.reduceSub, Nat.reduceMul, Nat.reduceDiv, Nat.reduceMod, Nat.reducePow, Nat.reduceBEq, Nat.reduceGT, reduceIte, m1, m2, o3, hck3, hp, c1, hk2, T3, T5, T30, T38, T57] | simp (disch := first | assumption | omega) only [RV, m1, m2, o3, hck3, hp, c1, hk2, T3, T5, T30, T38, T57])) <;> rfl)))
    | (apply R_cond
       · (simp only [RE, Nat.reduceEqDiff, Nat.reduceLT, Nat.reduceLeDiff, Nat.reduceBEq, reduceIte, m1, m2, o3, hck3, hp, c1, hk2, T3, T5, T30, T38, T57] <;> rfl))
    | (apply R_grd
       · (simp only [yieldedA, RY, Nat.reduceEqDiff, reduceIte, m1, m2, o3, hck3, hp, c1, hk2, T3, T5, T30, T38, T57] <;> rfl)))
  generalize k2.set 16 (k2.getD 16 0#8 + 1#8) = k3 at hinc hk3 hck3 ⊢
  obtain ⟨H, hH⟩ : ∃ H, H = ((newRowH h3 .rw 1 (b8 (List.replicate 16 0#8))).put h3.nx (some (AObj.row .rw 1 (b8 tg)))).put h.nx (some (AObj.row .rw 1 (b8 k3))) := ⟨_, rfl⟩
  rw [← hH]
  have oT : H.obj h3.nx = some (.row .rw 1 (b8 tg)) := by
    have c2 : (h3.nx = h.nx) = False := eq_false (by omega)
    rw [hH]; simp only [RH, c2, reduceIte]
  have oK : H.obj h.nx = some (.row .rw 1 (b8 k3)) := by rw [hH]; simp only [RH]
  have nH : H.nx = h3.nx + 1 := by rw [hH]; simp only [RH]
  have bH : By H v2 b := (b1.fr0 F3).keep (by omega) (fun r hr => by
    have := hb.lt r (r2 r hr)
    rw [hH, obj_put, if_neg (by omega), obj_put, if_neg (by omega), obj_new, if_neg (by omega)])
  clear hH
  refine R_fn ?_ (sum63 4 H k3 hk3 v2 b bH (by omega)) ?_
  · rfl
  intro v4 h4 ⟨hv4, F4⟩
  subst hv4
  rw [hinc]
  have n4 := F4.1
  have oT4 := F4.2 h3.nx (by omega)
  rw [oT] at oT4
  have hI : (incB tg).length = 16 := by rw [incB_length, hT]
  have hpI := fun (H : Heap) (p : Nat) => puts8 (h := H) (b := p) (es := 1) hI (List.length_replicate (n := 16) (a := 0#8))
  have c2 : (h3.nx = h4.nx) = False := eq_false (by omega)
  have c3 : (h4.nx = h3.nx) = False := eq_false (by omega)
  repeat (first
    | refine R_seq ?_ | refine R_region ?_ | refine R_nil ?_ | refine Q_seq ?_ | refine Q_norm ?_ | refine Q_seqr ?_ | refine Q_seqx ?_ | refine Q_bl ?_ | refine Q_blr ?_ | refine Q_blx ?_ | refine Q_blo rfl ?_ | refine R_block ?_ | refine R_skip ?_ | refine R_exit ?_ | refine R_ret ?_ | refine I_true ?_ | refine I_false ?_ | refine N_exit ?_ | refine N_ret ?_
    | ((first | apply R_op | apply R_op0)
       · (first | (simp (maxDischargeDepth := 9) only [RA, Nat.reduceEqDiff, Nat.reduceLT, Nat.reduceLeDiff, Nat.reduceAdd, Nat.reduceSub, Nat.reduceMul, Nat.reduceDiv, Nat.reduceMod, Nat.reducePow, Nat.reduceBEq, Nat.reduceGT, reduceIte, hpI, T3, T5, T30, T38, T57] <;> rfl) | ((repeat (first | (simp (maxDischargeDepth := 9) only [RA, Nat.reduceEqDiff, Nat.reduceLT, Nat.reduceLeDiff, Nat.reduceAdd, Nat.reduceSub, Nat.reduceMul, Nat.reduceDiv, Nat.reduceMod, Nat.reducePow, Nat.reduceBEq, Nat.reduceGT, reduceIte, hpI, T3, T5, T30, T38, T57]; done) | simp (maxDischargeDepth := 9) only [RA, Nat.reduceEqDiff, Nat.reduceLT, Nat.reduceLeDiff, Nat.reduceAdd, Nat.reduceSub, Nat.reduceMul, Nat.reduceDiv, Nat.reduceMod, Nat.reducePow, Nat.reduceBEq, Nat.reduceGT, reduceIte, hpI, T3, T5, T30, T38, T57] | simp (disch := first | assumption | omega) only [RV, hpI, T3, T5, T30, T38, T57])) <;> rfl)))
    | (apply R_cond
       · (simp only [RE, Nat.reduceEqDiff, Nat.reduceLT, Nat.reduceLeDiff, Nat.reduceBEq, reduceIte, hpI, T3, T5, T30, T38, T57] <;> rfl))
    | (apply R_grd
       · (simp only [yieldedA, RY, Nat.reduceEqDiff, reduceIte, hpI, T3, T5, T30, T38, T57] <;> rfl)))
  obtain ⟨G, hG⟩ : ∃ G, G = (newRowH h4 .rw 1 (b8 (List.replicate 16 0#8))).put h4.nx (some (AObj.row .rw 1 (b8 (incB tg)))) := ⟨_, rfl⟩
  rw [← hG]
  have oA : G.obj h3.nx = some (.row .rw 1 (b8 tg)) := by rw [hG]; simp only [RH, c2, reduceIte]; exact oT4
  have oB : G.obj h4.nx = some (.row .rw 1 (b8 (incB tg))) := by rw [hG]; simp only [RH]
  clear hG
  refine W.bjoin (fun e5 h5 => e5 5 = .pointer (some ⟨h3.nx, 0, none⟩) ∧ e5 6 = .pointer (some ⟨h4.nx, 0, none⟩) ∧ e5 39 = envOf [.agg ⟨b8 k⟩, w] 39 ∧ e5 40 = envOf [.agg ⟨b8 k⟩, w] 40 ∧ e5 41 = envOf [.agg ⟨b8 k⟩, w] 41 ∧ h5.obj h3.nx = some (.row .rw 1 (b8 (incB tg))) ∧ h5.obj h4.nx = some (.row .rw 1 (b8 (incB tg)))) ?_ ?_
  · refine W_loopX [5, 6, 39, 40, 41] [h4.nx] (fun i e5 h5 => e5 7 = iv i ∧ h5.obj h3.nx = some (.row .rw 1 (b8 (zl tg i))) ∧ incB tg = List.replicate i 0#8 ++ incB (tg.drop i)) 16 (by decide) ?_ ?_ ?_
    · exact ⟨by (try simp only [List.map_cons, List.map_nil, RH, Nat.reduceAdd, Nat.reduceEqDiff, reduceIte, ev_tmp, ev_const, lit_iv, lit_w8, lit_w32, lit_w64, envOf0, envOf1, envOf2, envOf3, envOf4, envOf5, T3, T5, T30, T38, T57]), by unfold zl; simpa using oA, by simp⟩
    · intro i hi e5 h5 hK hO hN ⟨j7, o5, i5⟩
      simp only [List.map_cons, List.map_nil, List.cons.injEq, and_true, RH, Nat.reduceAdd, Nat.reduceEqDiff, reduceIte, envOf0, envOf1, envOf2, envOf3, envOf4, envOf5, oB, m39, m40, m41] at hK
      obtain ⟨K0_5, K0_6, K0_39, K0_40, K0_41⟩ := hK
      simp only [List.map_cons, List.map_nil, List.cons.injEq, and_true, RH, Nat.reduceAdd, Nat.reduceEqDiff, reduceIte, envOf0, envOf1, envOf2, envOf3, envOf4, envOf5, oB, m39, m40, m41] at hO
      have O0_0 := hO
      try simp only [RH] at hN
      have hl := zl_length (T := tg) (i := i) (by omega)
      rw [hT] at hl
      have hg := zl_get (T := tg) (i := i)
      by_cases hz : tg.getD i 0#8 + 1#8 = 0#8
      · refine W.mono ?_ (fun x e h hq => Or.inl hq)
        have hs := zl_next (T := tg) (i := i) (by omega) hz
        have i6 := zl_inc (by omega) i5 hz
        have hg2 : (zl tg (i + 1)).getD i 0#8 = 0#8 := by
          unfold zl
          rw [List.getD_eq_getElem?_getD, List.getElem?_append_left (by simp), List.getElem?_replicate, if_pos (by omega)]; rfl
        have hl2 := zl_length (T := tg) (i := i + 1) (by omega)
        rw [hT] at hl2
        repeat (first
          | refine R_seq ?_ | refine R_region ?_ | refine R_nil ?_ | refine Q_seq ?_ | refine Q_norm ?_ | refine Q_seqr ?_ | refine Q_seqx ?_ | refine Q_bl ?_ | refine Q_blr ?_ | refine Q_blx ?_ | refine Q_blo rfl ?_ | refine R_block ?_ | refine R_skip ?_ | refine R_exit ?_ | refine R_ret ?_ | refine I_true ?_ | refine I_false ?_ | refine N_exit ?_ | refine N_ret ?_
          | ((first | apply R_op | apply R_op0)
             · (first | (simp (maxDischargeDepth := 9) only [RA, Nat.reduceEqDiff, Nat.reduceLT, Nat.reduceLeDiff, Nat.reduceAdd, Nat.reduceSub, Nat.reduceMul, Nat.reduceDiv, Nat.reduceMod, Nat.reducePow, Nat.reduceBEq, Nat.reduceGT, reduceIte, j7, hi, o5, hl, hl2, hg, hs, hg2, T3, T5, T30, T38, T57, K0_5, K0_6, K0_39, K0_40, K0_41, O0_0] <;> rfl) | ((repeat (first | (simp (maxDischargeDepth := 9) only [RA, Nat.reduceEqDiff, Nat.reduceLT, Nat.reduceLeDiff, Nat.reduceAdd, Nat.reduceSub, Nat.reduceMul, Nat.reduceDiv, Nat.reduceMod, Nat.reducePow, Nat.reduceBEq, Nat.reduceGT, reduceIte, j7, hi, o5, hl, hl2, hg, hs, hg2, T3, T5, T30, T38, T57, K0_5, K0_6, K0_39, K0_40, K0_41, O0_0]; done) | simp (maxDischargeDepth := 9) only [RA, Nat.reduceEqDiff, Nat.reduceLT, Nat.reduceLeDiff, Nat.reduceAdd, Nat.reduceSub, Nat.reduceMul, Nat.reduceDiv, Nat.reduceMod, Nat.reducePow, Nat.reduceBEq, Nat.reduceGT, reduceIte, j7, hi, o5, hl, hl2, hg, hs, hg2, T3, T5, T30, T38, T57, K0_5, K0_6, K0_39, K0_40, K0_41, O0_0] | simp (disch := first | assumption | omega) only [RV, j7, hi, o5, hl, hl2, hg, hs, hg2, T3, T5, T30, T38, T57, K0_5, K0_6, K0_39, K0_40, K0_41, O0_0])) <;> rfl)))
          | (apply R_cond
             · (simp only [RE, Nat.reduceEqDiff, Nat.reduceLT, Nat.reduceLeDiff, Nat.reduceBEq, reduceIte, j7, hi, o5, hl, hl2, hg, hs, hg2, T3, T5, T30, T38, T57, K0_5, K0_6, K0_39, K0_40, K0_41, O0_0] <;> rfl))
          | (apply R_grd
             · (simp only [yieldedA, RY, Nat.reduceEqDiff, reduceIte, j7, hi, o5, hl, hl2, hg, hs, hg2, T3, T5, T30, T38, T57, K0_5, K0_6, K0_39, K0_40, K0_41, O0_0] <;> rfl)))
        refine ⟨rfl, by first | rfl | simp only [List.map_cons, List.map_nil, RH, Nat.reduceAdd, Nat.reduceEqDiff, reduceIte, c3, T3, T5, T30, T38, T57, K0_5, K0_6, K0_39, K0_40, K0_41, O0_0], by first | rfl | simp only [List.map_cons, List.map_nil, RH, Nat.reduceAdd, Nat.reduceEqDiff, reduceIte, c3, T3, T5, T30, T38, T57, K0_5, K0_6, K0_39, K0_40, K0_41, O0_0], by first | (simp only [RH, c3, T3, T5, T30, T38, T57, K0_5, K0_6, K0_39, K0_40, K0_41, O0_0]; done) | ((try simp only [RH, c3, T3, T5, T30, T38, T57, K0_5, K0_6, K0_39, K0_40, K0_41, O0_0]); omega), ?_⟩
        exact ⟨by (try simp only [List.map_cons, List.map_nil, RH, Nat.reduceAdd, Nat.reduceEqDiff, reduceIte, ev_tmp, ev_const, lit_iv, lit_w8, lit_w32, lit_w64, envOf0, envOf1, envOf2, envOf3, envOf4, envOf5, T3, T5, T30, T38, T57, K0_5, K0_6, K0_39, K0_40, K0_41, O0_0]), by simp only [RH], i6⟩
      · refine W.mono ?_ (fun x e h hq => Or.inr hq)
        have hs := zl_out (by omega) i5 hz
        have hg2 : (incB tg).getD i 0#8 = tg.getD i 0#8 + 1#8 := by
          rw [← hs, List.getD_eq_getElem?_getD, List.getElem?_set_self (by omega)]; rfl
        repeat (first
          | refine R_seq ?_ | refine R_region ?_ | refine R_nil ?_ | refine Q_seq ?_ | refine Q_norm ?_ | refine Q_seqr ?_ | refine Q_seqx ?_ | refine Q_bl ?_ | refine Q_blr ?_ | refine Q_blx ?_ | refine Q_blo rfl ?_ | refine R_block ?_ | refine R_skip ?_ | refine R_exit ?_ | refine R_ret ?_ | refine I_true ?_ | refine I_false ?_ | refine N_exit ?_ | refine N_ret ?_
          | ((first | apply R_op | apply R_op0)
             · (first | (simp (maxDischargeDepth := 9) only [RA, Nat.reduceEqDiff, Nat.reduceLT, Nat.reduceLeDiff, Nat.reduceAdd, Nat.reduceSub, Nat.reduceMul, Nat.reduceDiv, Nat.reduceMod, Nat.reducePow, Nat.reduceBEq, Nat.reduceGT, reduceIte, j7, hi, o5, hl, hI, hg, hs, hg2, hz, T3, T5, T30, T38, T57, K0_5, K0_6, K0_39, K0_40, K0_41, O0_0] <;> rfl) | ((repeat (first | (simp (maxDischargeDepth := 9) only [RA, Nat.reduceEqDiff, Nat.reduceLT, Nat.reduceLeDiff, Nat.reduceAdd, Nat.reduceSub, Nat.reduceMul, Nat.reduceDiv, Nat.reduceMod, Nat.reducePow, Nat.reduceBEq, Nat.reduceGT, reduceIte, j7, hi, o5, hl, hI, hg, hs, hg2, hz, T3, T5, T30, T38, T57, K0_5, K0_6, K0_39, K0_40, K0_41, O0_0]; done) | simp (maxDischargeDepth := 9) only [RA, Nat.reduceEqDiff, Nat.reduceLT, Nat.reduceLeDiff, Nat.reduceAdd, Nat.reduceSub, Nat.reduceMul, Nat.reduceDiv, Nat.reduceMod, Nat.reducePow, Nat.reduceBEq, Nat.reduceGT, reduceIte, j7, hi, o5, hl, hI, hg, hs, hg2, hz, T3, T5, T30, T38, T57, K0_5, K0_6, K0_39, K0_40, K0_41, O0_0] | simp (disch := first | assumption | omega) only [RV, j7, hi, o5, hl, hI, hg, hs, hg2, hz, T3, T5, T30, T38, T57, K0_5, K0_6, K0_39, K0_40, K0_41, O0_0])) <;> rfl)))
          | (apply R_cond
             · (simp only [RE, Nat.reduceEqDiff, Nat.reduceLT, Nat.reduceLeDiff, Nat.reduceBEq, reduceIte, j7, hi, o5, hl, hI, hg, hs, hg2, hz, T3, T5, T30, T38, T57, K0_5, K0_6, K0_39, K0_40, K0_41, O0_0] <;> rfl))
          | (apply R_grd
             · (simp only [yieldedA, RY, Nat.reduceEqDiff, reduceIte, j7, hi, o5, hl, hI, hg, hs, hg2, hz, T3, T5, T30, T38, T57, K0_5, K0_6, K0_39, K0_40, K0_41, O0_0] <;> rfl)))
        exact ⟨rfl, by (try simp only [List.map_cons, List.map_nil, RH, Nat.reduceAdd, Nat.reduceEqDiff, reduceIte, ev_tmp, ev_const, lit_iv, lit_w8, lit_w32, lit_w64, envOf0, envOf1, envOf2, envOf3, envOf4, envOf5, T3, T5, T30, T38, T57, K0_5, K0_6, K0_39, K0_40, K0_41, O0_0]), by (try simp only [List.map_cons, List.map_nil, RH, Nat.reduceAdd, Nat.reduceEqDiff, reduceIte, ev_tmp, ev_const, lit_iv, lit_w8, lit_w32, lit_w64, envOf0, envOf1, envOf2, envOf3, envOf4, envOf5, T3, T5, T30, T38, T57, K0_5, K0_6, K0_39, K0_40, K0_41, O0_0]), by (try simp only [List.map_cons, List.map_nil, RH, Nat.reduceAdd, Nat.reduceEqDiff, reduceIte, ev_tmp, ev_const, lit_iv, lit_w8, lit_w32, lit_w64, envOf0, envOf1, envOf2, envOf3, envOf4, envOf5, T3, T5, T30, T38, T57, K0_5, K0_6, K0_39, K0_40, K0_41, O0_0]), by (try simp only [List.map_cons, List.map_nil, RH, Nat.reduceAdd, Nat.reduceEqDiff, reduceIte, ev_tmp, ev_const, lit_iv, lit_w8, lit_w32, lit_w64, envOf0, envOf1, envOf2, envOf3, envOf4, envOf5, T3, T5, T30, T38, T57, K0_5, K0_6, K0_39, K0_40, K0_41, O0_0]), by (try simp only [List.map_cons, List.map_nil, RH, Nat.reduceAdd, Nat.reduceEqDiff, reduceIte, ev_tmp, ev_const, lit_iv, lit_w8, lit_w32, lit_w64, envOf0, envOf1, envOf2, envOf3, envOf4, envOf5, T3, T5, T30, T38, T57, K0_5, K0_6, K0_39, K0_40, K0_41, O0_0]), by simp only [RH], by simp only [RH, c3, reduceIte]; exact O0_0⟩
    · intro e5 h5 hK hO hN ⟨j7, o5, i5⟩
      simp only [List.map_cons, List.map_nil, List.cons.injEq, and_true, RH, Nat.reduceAdd, Nat.reduceEqDiff, reduceIte, envOf0, envOf1, envOf2, envOf3, envOf4, envOf5, oB, m39, m40, m41] at hK
      obtain ⟨K0_5, K0_6, K0_39, K0_40, K0_41⟩ := hK
      simp only [List.map_cons, List.map_nil, List.cons.injEq, and_true, RH, Nat.reduceAdd, Nat.reduceEqDiff, reduceIte, envOf0, envOf1, envOf2, envOf3, envOf4, envOf5, oB, m39, m40, m41] at hO
      have O0_0 := hO
      try simp only [RH] at hN
      repeat (first
        | refine R_seq ?_ | refine R_region ?_ | refine R_nil ?_ | refine Q_seq ?_ | refine Q_norm ?_ | refine Q_seqr ?_ | refine Q_seqx ?_ | refine Q_bl ?_ | refine Q_blr ?_ | refine Q_blx ?_ | refine Q_blo rfl ?_ | refine R_block ?_ | refine R_skip ?_ | refine R_exit ?_ | refine R_ret ?_ | refine I_true ?_ | refine I_false ?_ | refine N_exit ?_ | refine N_ret ?_
        | ((first | apply R_op | apply R_op0)
           · (first | (simp (maxDischargeDepth := 9) only [RA, Nat.reduceEqDiff, Nat.reduceLT, Nat.reduceLeDiff, Nat.reduceAdd, Nat.reduceSub, Nat.reduceMul, Nat.reduceDiv, Nat.reduceMod, Nat.reducePow, Nat.reduceBEq, Nat.reduceGT, reduceIte, j7, T3, T5, T30, T38, T57, K0_5, K0_6, K0_39, K0_40, K0_41, O0_0] <;> rfl) | ((repeat (first | (simp (maxDischargeDepth := 9) only [RA, Nat.reduceEqDiff, Nat.reduceLT, Nat.reduceLeDiff, Nat.reduceAdd, Nat.reduceSub, Nat.reduceMul, Nat.reduceDiv, Nat.reduceMod, Nat.reducePow, Nat.reduceBEq, Nat.reduceGT, reduceIte, j7, T3, T5, T30, T38, T57, K0_5, K0_6, K0_39, K0_40, K0_41, O0_0]; done) | simp (maxDischargeDepth := 9) only [RA, Nat.reduceEqDiff, Nat.reduceLT, Nat.reduceLeDiff, Nat.reduceAdd, Nat.reduceSub, Nat.reduceMul, Nat.reduceDiv, Nat.reduceMod, Nat.reducePow, Nat.reduceBEq, Nat.reduceGT, reduceIte, j7, T3, T5, T30, T38, T57, K0_5, K0_6, K0_39, K0_40, K0_41, O0_0] | simp (disch := first | assumption | omega) only [RV, j7, T3, T5, T30, T38, T57, K0_5, K0_6, K0_39, K0_40, K0_41, O0_0])) <;> rfl)))
        | (apply R_cond
           · (simp only [RE, Nat.reduceEqDiff, Nat.reduceLT, Nat.reduceLeDiff, Nat.reduceBEq, reduceIte, j7, T3, T5, T30, T38, T57, K0_5, K0_6, K0_39, K0_40, K0_41, O0_0] <;> rfl))
        | (apply R_grd
           · (simp only [yieldedA, RY, Nat.reduceEqDiff, reduceIte, j7, T3, T5, T30, T38, T57, K0_5, K0_6, K0_39, K0_40, K0_41, O0_0] <;> rfl)))
      have he : zl tg 16 = incB tg := by
        rw [i5]; unfold zl
        rw [List.drop_of_length_le (by omega), incB_nil]
      rw [he] at o5
      exact ⟨rfl, by (try simp only [List.map_cons, List.map_nil, RH, Nat.reduceAdd, Nat.reduceEqDiff, reduceIte, ev_tmp, ev_const, lit_iv, lit_w8, lit_w32, lit_w64, envOf0, envOf1, envOf2, envOf3, envOf4, envOf5, T3, T5, T30, T38, T57, K0_5, K0_6, K0_39, K0_40, K0_41, O0_0]), by (try simp only [List.map_cons, List.map_nil, RH, Nat.reduceAdd, Nat.reduceEqDiff, reduceIte, ev_tmp, ev_const, lit_iv, lit_w8, lit_w32, lit_w64, envOf0, envOf1, envOf2, envOf3, envOf4, envOf5, T3, T5, T30, T38, T57, K0_5, K0_6, K0_39, K0_40, K0_41, O0_0]), by (try simp only [List.map_cons, List.map_nil, RH, Nat.reduceAdd, Nat.reduceEqDiff, reduceIte, ev_tmp, ev_const, lit_iv, lit_w8, lit_w32, lit_w64, envOf0, envOf1, envOf2, envOf3, envOf4, envOf5, T3, T5, T30, T38, T57, K0_5, K0_6, K0_39, K0_40, K0_41, O0_0]), by (try simp only [List.map_cons, List.map_nil, RH, Nat.reduceAdd, Nat.reduceEqDiff, reduceIte, ev_tmp, ev_const, lit_iv, lit_w8, lit_w32, lit_w64, envOf0, envOf1, envOf2, envOf3, envOf4, envOf5, T3, T5, T30, T38, T57, K0_5, K0_6, K0_39, K0_40, K0_41, O0_0]), by (try simp only [List.map_cons, List.map_nil, RH, Nat.reduceAdd, Nat.reduceEqDiff, reduceIte, ev_tmp, ev_const, lit_iv, lit_w8, lit_w32, lit_w64, envOf0, envOf1, envOf2, envOf3, envOf4, envOf5, T3, T5, T30, T38, T57, K0_5, K0_6, K0_39, K0_40, K0_41, O0_0]), o5, O0_0⟩
  · intro e5 h5 ⟨m5, m6, m39, m40, m41, o5, o6⟩
    repeat (first
      | refine R_seq ?_ | refine R_region ?_ | refine R_nil ?_ | refine Q_seq ?_ | refine Q_norm ?_ | refine Q_seqr ?_ | refine Q_seqx ?_ | refine Q_bl ?_ | refine Q_blr ?_ | refine Q_blx ?_ | refine Q_blo rfl ?_ | refine R_block ?_ | refine R_skip ?_ | refine R_exit ?_ | refine R_ret ?_ | refine I_true ?_ | refine I_false ?_ | refine N_exit ?_ | refine N_ret ?_
      | (refine R_draw (by kernel_rfl) ?_)
      | ((first | apply R_op | apply R_op0)
         · (first | (simp (maxDischargeDepth := 9) only [RA, Nat.reduceEqDiff, Nat.reduceLT, Nat.reduceLeDiff, Nat.reduceAdd, Nat.reduceSub, Nat.reduceMul, Nat.reduceDiv, Nat.reduceMod, Nat.reducePow, Nat.reduceBEq, Nat.reduceGT, reduceIte, m5, m6, o5, o6, live62 1, cut8 hI, beq57 hI hI, T3, T5, T30, T38, T57] <;> rfl) | ((repeat (first | (simp (maxDischargeDepth := 9) only [RA, Nat.reduceEqDiff, Nat.reduceLT, Nat.reduceLeDiff, Nat.reduceAdd, Nat.reduceSub, Nat.reduceMul, Nat.reduceDiv, Nat.reduceMod, Nat.reducePow, Nat.reduceBEq, Nat.reduceGT, reduceIte, m5, m6, o5, o6, live62 1, cut8 hI, beq57 hI hI, T3, T5, T30, T38, T57]; done) | simp (maxDischargeDepth := 9) only [RA, Nat.reduceEqDiff, Nat.reduceLT, Nat.reduceLeDiff, Nat.reduceAdd, Nat.reduceSub, Nat.reduceMul, Nat.reduceDiv, Nat.reduceMod, Nat.reducePow, Nat.reduceBEq, Nat.reduceGT, reduceIte, m5, m6, o5, o6, live62 1, cut8 hI, beq57 hI hI, T3, T5, T30, T38, T57] | simp (disch := first | assumption | omega) only [RV, m5, m6, o5, o6, live62 1, cut8 hI, beq57 hI hI, T3, T5, T30, T38, T57])) <;> rfl)))
      | (apply R_cond
         · (simp only [RE, Nat.reduceEqDiff, Nat.reduceLT, Nat.reduceLeDiff, Nat.reduceBEq, reduceIte, m5, m6, o5, o6, live62 1, cut8 hI, beq57 hI hI, T3, T5, T30, T38, T57] <;> rfl))
      | (apply R_grd
         · (simp only [yieldedA, RY, Nat.reduceEqDiff, reduceIte, m5, m6, o5, o6, live62 1, cut8 hI, beq57 hI hI, T3, T5, T30, T38, T57] <;> rfl)))
    (first | refine ⟨.inr rfl, _, rfl, ?_⟩ | refine ⟨.inl rfl, _, rfl, ?_⟩) <;> simp only [packR, upd_apply, Nat.reduceEqDiff, if_true, if_false, reduceIte]
theorem wl22 (h : Heap) (avs : List Value) (ty : TyVs Try.prog 8 h [30, 38] avs) : ∃ v h', evF (cfg0 Try.prog) 13 22 avs h = some (.ok v, h') ∧ v = .bool true := by
  match avs, ty with
  | [u, w], ⟨s0, s1, _⟩ =>
    obtain ⟨k, hk, rfl⟩ := tyv30 s0
    obtain ⟨ys, hc, _⟩ := tyv38 s1
    exact law22 h k hk w ys hc
end Go.Proofs.Ytfehhihllenjiaa
