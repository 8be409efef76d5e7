/- Sealed bytes: what is asked, what is alive. -/
import Derived.Test.YtfehhihllenjiaaLd
import Derived.Test.YtfehhihllenjiaaKk
set_option linter.all false
namespace Go.Proofs.Ytfehhihllenjiaa
open Go.Proofs
theorem seal_take (k n a b : List (BitVec 8)) : (sealS k n a b).take ((sealS k n a b).length - 16) = xorS k n 1#32 b := by
  rw [sealS_length]
  unfold sealS
  rw [List.take_append_of_le_length (by rw [xorS_length]; omega), List.take_of_length_le (by rw [xorS_length]; omega)]
theorem seal_drop (k n a b : List (BitVec 8)) : (sealS k n a b).drop ((sealS k n a b).length - 16) = tagS k n a (xorS k n 1#32 b) := by
  rw [sealS_length]
  unfold sealS
  rw [List.drop_append_of_le_length (by rw [xorS_length]; omega), List.drop_of_length_le (by rw [xorS_length]; omega), List.nil_append]
def ask5L (k n : List (BitVec 8)) (v : Value) : List Value := b8 k ++ (b8 n ++ [v])
theorem cells74 : Try.prog.cellsOf 74 = 45 := by kernel_rfl
theorem cells38 : Try.prog.cellsOf 38 = 1 := by kernel_rfl
set_option maxRecDepth 20000 in
theorem ty74 {h : Heap} {d : Nat} {cs : List Value} (s : TyL Try.prog (d + 3) h 74 cs) : ∃ k n v xs, k.length = 32 ∧ n.length = 12 ∧ cs = ask5L k n v ∧ By h v xs := by
  have hl := ty_len Try.underlying74 cells74 s
  obtain ⟨k, hk, e0⟩ := ty30 (d := d) (ty_field (i := 0) (u := 30) (o := 0) Try.underlying74 rfl rfl rfl cells30 s)
  obtain ⟨n, hn, e1⟩ := ty32 (d := d) (ty_field (i := 1) (u := 32) (o := 32) Try.underlying74 rfl rfl rfl cells32 s)
  obtain ⟨v, xs, e2, hb, _⟩ := ty_bytes (d := d + 1 - 1) Try.underlying38 Try.underlying5 cells5 (ty_field (i := 2) (u := 38) (o := 44) Try.underlying74 rfl rfl rfl cells38 s)
  refine ⟨k, n, v, xs, hk, hn, ?_, hb⟩
  unfold ask5L
  rw [← e0, ← e1, ← e2, List.drop_zero]
  have h1 : cs = cs.take 32 ++ cs.drop 32 := by simp
  have h2 : cs.drop 32 = (cs.drop 32).take 12 ++ (cs.drop 44).take 1 := by
    have : (cs.drop 44).take 1 = cs.drop 44 := List.take_of_length_le (by simp; omega)
    rw [this, show cs.drop 44 = (cs.drop 32).drop 12 by rw [List.drop_drop], List.take_append_drop]
  rw [← h2]; exact h1
section
variable {k n : List (BitVec 8)} {v w : Value} {kd : Kind} {es : Nat} {h : Heap}
theorem sl_one {h : Heap} {v : Value} {xs : List (BitVec 8)} (hb : By h v xs) : v.oneCell' = true := by
  obtain ⟨a, c, rfl⟩ := sl_shape hb; rfl
theorem ask5_box (hv : v.oneCell' = true) : evBox (.agg ⟨ask5L k n v⟩) h = some (.pointer (some ⟨h.nx, 0, none⟩), newRowH h .rw 1 (ask5L k n v)) := box_agg (by
  unfold ask5L
  simp only [List.all_append, b8_one, List.all_cons, List.all_nil, Bool.and_true, Bool.true_and]; exact hv)
theorem ask5_cut0 (hk : k.length = 32) : cutV (some (.row kd es (ask5L k n v))) 0 32 = some (.agg ⟨b8 k⟩) := by
  rw [cutV_row, if_pos (by simp [ask5L, b8]; omega)]
  unfold ask5L
  rw [List.drop_zero, List.take_append_of_le_length (by rw [b8_length]; omega), List.take_of_length_le (by rw [b8_length]; omega)]
theorem ask5_cut1 (hk : k.length = 32) (hn : n.length = 12) : cutV (some (.row kd es (ask5L k n v))) 32 12 = some (.agg ⟨b8 n⟩) := by
  rw [cutV_row, if_pos (by simp [ask5L, b8]; omega)]
  unfold ask5L
  rw [List.drop_append_of_le_length (by rw [b8_length]; omega), List.drop_of_length_le (by rw [b8_length]; omega), List.nil_append, List.take_append_of_le_length (by rw [b8_length]; omega), List.take_of_length_le (by rw [b8_length]; omega)]
theorem ask5_cell (hk : k.length = 32) (hn : n.length = 12) : cellV (some (.row kd es (ask5L k n v))) 44 = some v := by
  rw [cellV_row]
  unfold ask5L
  rw [List.getElem?_append_right (by rw [b8_length]; omega), List.getElem?_append_right (by rw [b8_length, b8_length]; omega)]
  simp [b8_length, hk, hn]
theorem ask5_put (hk : k.length = 32) (hn : n.length = 12) {H : Heap} {p : Nat} : put1 H p 44 w (some (.row .rw es (ask5L k n v))) = some (H.put p (some (.row .rw es (ask5L k n w)))) := by
  have hl : (b8 k ++ (b8 n ++ [v])).length = 45 := by simp [b8_length, hk, hn]
  have e : (b8 k ++ (b8 n ++ [v])).set 44 w = b8 k ++ (b8 n ++ [w]) := by
    rw [List.set_append_right _ _ (by rw [b8_length]; omega), List.set_append_right _ _ (by rw [b8_length, b8_length]; omega), b8_length, b8_length, hk, hn]
    rfl
  show (if Kind.rw ≠ .ro ∧ 44 < (b8 k ++ (b8 n ++ [v])).length then some (H.put p (some (.row .rw es ((b8 k ++ (b8 n ++ [v])).set 44 w)))) else none) = _
  rw [if_pos ⟨by decide, by omega⟩, e]
  rfl
end
def lk1 : List (BitVec 8) := 1#8 :: List.replicate 31 0#8
def ln2 : List (BitVec 8) := 2#8 :: List.replicate 11 0#8
theorem bu30l : evBuild Try.prog 30 [(0, w8 1#8)] = some (.agg ⟨b8 lk1⟩) := by kernel_rfl
theorem bu32l : evBuild Try.prog 32 [(0, w8 2#8)] = some (.agg ⟨b8 ln2⟩) := by kernel_rfl
theorem lk1_length : lk1.length = 32 := rfl
theorem ln2_length : ln2.length = 12 := rfl
def lText : List (BitVec 8) := [116#8, 101#8, 120#8, 116#8]
theorem text_eq {l : Bool} : evBin Try.prog .eql 9 l (.string (bstr lText)) (.string ⟨#[116, 101, 120, 116]⟩) = some (.bool true) := by
  have e : (⟨#[116, 101, 120, 116]⟩ : ByteArray) = bstr lText := by kernel_rfl
  rw [e, str_eql, decide_eq_true rfl]
attribute [local irreducible] evOps iter evD evF evC evLoad evStore evAlloc evIndexAddr evIndex evLenB evBox evBin evUn evConvert evExtract evSlice evAppend evCopy evNil evBuild evMakeSlice evBuildSlice evBuiltin Program.underlying
attribute [local irreducible] leB padZ framedS block xorS polyT oneT tagS sealS ask5L lk1 ln2 lText
theorem tyv74 {h : Heap} {v : Value} (s : TyV Try.prog 8 h 74 v) : ∃ k n w xs, k.length = 32 ∧ n.length = 12 ∧ v = .agg ⟨ask5L k n w⟩ ∧ By h w xs := by
  obtain ⟨cs, rfl, s'⟩ := tyv_agg Try.underlying74 rfl s
  obtain ⟨k, n, w, xs, hk, hn, rfl, hb⟩ := ty74 (d := 5) s'
  exact ⟨k, n, w, xs, hk, hn, rfl, hb⟩
theorem openSeal (q : Nat) (h : Heap) (k n' : List (BitVec 8)) (hk : k.length = 32) (hn : n'.length = 12) (v w : Value) (a b : List (BitVec 8)) (ha : By h v a) (hb : By h w (sealS k n' a b)) (hal : a.length ≤ 1048000) (hbl : b.length ≤ 1048000) :
    ∃ v' h', fcall Try.prog (q + 11) (.func (.func 81) #[] #[]) [.agg ⟨b8 k⟩, .agg ⟨b8 n'⟩, v, w] h = some (.ok v', h') ∧ (∃ u, v' = .tuple #[u, iv 0] ∧ OwB h.nx h' u b) ∧ Fr h.nx h h' := by
  have hl := sealS_length k n' a b
  obtain ⟨v', h', e, hr, F⟩ := open81 q h k n' hk hn v w a (sealS k n' a b) ha hb (by omega) (by omega) (by omega)
  rw [seal_take, seal_drop, if_pos rfl, xorS_twice] at hr
  exact ⟨v', h', e, hr, F⟩
theorem inl78 : inlOf Try.prog 78 = true := by kernel_rfl
theorem iso78 : isoOf Try.prog 78 = true := by kernel_rfl
set_option maxRecDepth 20000 in
set_option maxHeartbeats 8000000 in
theorem live78 (n : Nat)  (h : Heap) : fcall Try.prog (n + 12) (.func (.func 78) #[] #[]) [] h = some (.ok (.bool true), h) := by
  rw [fcall_iso inl78 iso78]
  have : ∃ v h1, evF (cfg0 Try.prog) (n + 11 + 1) 78 [] ⟨fun _ => none, 0⟩ = some (.ok v, h1) ∧ v = (.bool true) := by
    rw [evF_eq Try.func78 rfl]
    apply evEnd_of_W
    simp only [Try.f78]
    have hk := lk1_length
    have hn := ln2_length
    repeat (first
      | refine R_seq ?_ | refine R_region ?_ | refine R_nil ?_ | refine Q_seq ?_ | refine Q_norm ?_ | refine Q_seqr ?_ | refine Q_seqx ?_ | refine Q_bl ?_ | refine Q_blr ?_ | refine Q_blx ?_ | refine Q_blo rfl ?_ | refine R_block ?_ | refine R_skip ?_ | refine R_exit ?_ | refine R_ret ?_ | refine I_true ?_ | refine I_false ?_ | refine N_exit ?_ | refine N_ret ?_
      | ((first | apply R_op | apply R_op0)
         · ((repeat (first | simp (maxDischargeDepth := 9) only [RA, Nat.reduceEqDiff, Nat.reduceLT, Nat.reduceLeDiff, Nat.reduceAdd, Nat.reduceSub, Nat.reduceMul, Nat.reduceDiv, Nat.reduceMod, Nat.reducePow, Nat.reduceBEq, Nat.reduceGT, reduceIte, bu30l, bu32l, T1, T3, T4, T9, T30, T32, T38, T66] | simp (disch := first | assumption | omega) only [RV, bu30l, bu32l])) <;> rfl))
      | (apply R_cond
         · (simp only [RE, Nat.reduceEqDiff, Nat.reduceLT, Nat.reduceLeDiff, Nat.reduceBEq, reduceIte] <;> rfl))
      | (apply R_grd
         · (simp only [yieldedA, RY, Nat.reduceEqDiff, reduceIte] <;> rfl)))
    refine R_cvp Try.underlying38 Try.underlying5 (b := 0) (i := 0) (n := 1) (c := 1) (es := 1) (cs := [w8 97#8]) (by first | rfl | (first | rw [ev_tmp] | rw [ev_const] | skip) <;> simp only [upd_apply, Nat.reduceEqDiff, if_true, if_false, reduceIte, lit_iv, lit_w8]) (by simp [RH]) ?_
    repeat (first
      | refine R_seq ?_ | refine R_region ?_ | refine R_nil ?_ | refine Q_seq ?_ | refine Q_norm ?_ | refine Q_seqr ?_ | refine Q_seqx ?_ | refine Q_bl ?_ | refine Q_blr ?_ | refine Q_blx ?_ | refine Q_blo rfl ?_ | refine R_block ?_ | refine R_skip ?_ | refine R_exit ?_ | refine R_ret ?_ | refine I_true ?_ | refine I_false ?_ | refine N_exit ?_ | refine N_ret ?_
      | ((first | apply R_op | apply R_op0)
         · ((repeat (first | simp (maxDischargeDepth := 9) only [RA, Nat.reduceEqDiff, Nat.reduceLT, Nat.reduceLeDiff, Nat.reduceAdd, Nat.reduceSub, Nat.reduceMul, Nat.reduceDiv, Nat.reduceMod, Nat.reducePow, Nat.reduceBEq, Nat.reduceGT, reduceIte, T1, T3, T4, T9, T30, T32, T38, T66] | simp (disch := first | assumption | omega) only [RV])) <;> rfl))
      | (apply R_cond
         · (simp only [RE, Nat.reduceEqDiff, Nat.reduceLT, Nat.reduceLeDiff, Nat.reduceBEq, reduceIte] <;> rfl))
      | (apply R_grd
         · (simp only [yieldedA, RY, Nat.reduceEqDiff, reduceIte] <;> rfl)))
    refine R_cvp Try.underlying38 Try.underlying5 (b := 1) (i := 0) (n := 4) (c := 4) (es := 1) (cs := [w8 116#8, w8 101#8, w8 120#8, w8 116#8]) (by first | rfl | (first | rw [ev_tmp] | rw [ev_const] | skip) <;> simp only [upd_apply, Nat.reduceEqDiff, if_true, if_false, reduceIte, lit_iv, lit_w8]) (by simp [RH]) ?_
    repeat (first
      | refine R_seq ?_ | refine R_region ?_ | refine R_nil ?_ | refine Q_seq ?_ | refine Q_norm ?_ | refine Q_seqr ?_ | refine Q_seqx ?_ | refine Q_bl ?_ | refine Q_blr ?_ | refine Q_blx ?_ | refine Q_blo rfl ?_ | refine R_block ?_ | refine R_skip ?_ | refine R_exit ?_ | refine R_ret ?_ | refine I_true ?_ | refine I_false ?_ | refine N_exit ?_ | refine N_ret ?_
      | ((first | apply R_op | apply R_op0)
         · ((repeat (first | simp (maxDischargeDepth := 9) only [RA, Nat.reduceEqDiff, Nat.reduceLT, Nat.reduceLeDiff, Nat.reduceAdd, Nat.reduceSub, Nat.reduceMul, Nat.reduceDiv, Nat.reduceMod, Nat.reducePow, Nat.reduceBEq, Nat.reduceGT, reduceIte, T1, T3, T4, T9, T30, T32, T38, T66] | simp (disch := first | assumption | omega) only [RV])) <;> rfl))
      | (apply R_cond
         · (simp only [RE, Nat.reduceEqDiff, Nat.reduceLT, Nat.reduceLeDiff, Nat.reduceBEq, reduceIte] <;> rfl))
      | (apply R_grd
         · (simp only [yieldedA, RY, Nat.reduceEqDiff, reduceIte] <;> rfl)))
    obtain ⟨H, hH⟩ : ∃ H, H = newRowH (newRowH ⟨fun _ => none, 0⟩ .rw 1 [w8 97#8]) .rw 1 [w8 116#8, w8 101#8, w8 120#8, w8 116#8] := ⟨_, rfl⟩
    rw [← hH]
    have o0 : H.obj 0 = some (.row .rw 1 (b8 [97#8])) := by rw [hH]; simp [RH]; rfl
    have o1 : H.obj 1 = some (.row .rw 1 (b8 lText)) := by rw [hH]; simp [RH]; unfold lText; rfl
    have nH : H.nx = 2 := by rw [hH]; simp only [RH]
    clear hH
    have lt4 : lText.length = 4 := by unfold lText; rfl
    refine R_fn ?_ (seal79 (n + 1) H lk1 ln2 hk hn (.slice (some ⟨0, 0, none⟩) 1 1) (.slice (some ⟨1, 0, none⟩) 4 4) [97#8] lText (by_row (k := .rw) (by omega) o0 (Nat.le_refl _) rfl) (by_row (k := .rw) (by omega) o1 (Nat.le_refl _) lt4) (by simp) (by omega)) ?_
    · rfl
    intro v1 h1 ⟨own1, F1⟩
    have n1 := F1.1
    repeat (first
      | refine R_seq ?_ | refine R_region ?_ | refine R_nil ?_ | refine Q_seq ?_ | refine Q_norm ?_ | refine Q_seqr ?_ | refine Q_seqx ?_ | refine Q_bl ?_ | refine Q_blr ?_ | refine Q_blx ?_ | refine Q_blo rfl ?_ | refine R_block ?_ | refine R_skip ?_ | refine R_exit ?_ | refine R_ret ?_ | refine I_true ?_ | refine I_false ?_ | refine N_exit ?_ | refine N_ret ?_
      | ((first | apply R_op | apply R_op0)
         · ((repeat (first | simp (maxDischargeDepth := 9) only [RA, Nat.reduceEqDiff, Nat.reduceLT, Nat.reduceLeDiff, Nat.reduceAdd, Nat.reduceSub, Nat.reduceMul, Nat.reduceDiv, Nat.reduceMod, Nat.reducePow, Nat.reduceBEq, Nat.reduceGT, reduceIte, bu30l, bu32l, T1, T3, T4, T9, T30, T32, T38, T66] | simp (disch := first | assumption | omega) only [RV, bu30l, bu32l])) <;> rfl))
      | (apply R_cond
         · (simp only [RE, Nat.reduceEqDiff, Nat.reduceLT, Nat.reduceLeDiff, Nat.reduceBEq, reduceIte] <;> rfl))
      | (apply R_grd
         · (simp only [yieldedA, RY, Nat.reduceEqDiff, reduceIte] <;> rfl)))
    refine R_cvp Try.underlying38 Try.underlying5 (b := h1.nx) (i := 0) (n := 1) (c := 1) (es := 1) (cs := [w8 97#8]) (by first | rfl | (first | rw [ev_tmp] | rw [ev_const] | skip) <;> simp only [upd_apply, Nat.reduceEqDiff, if_true, if_false, reduceIte, lit_iv, lit_w8]) (by simp [RH]) ?_
    repeat (first
      | refine R_seq ?_ | refine R_region ?_ | refine R_nil ?_ | refine Q_seq ?_ | refine Q_norm ?_ | refine Q_seqr ?_ | refine Q_seqx ?_ | refine Q_bl ?_ | refine Q_blr ?_ | refine Q_blx ?_ | refine Q_blo rfl ?_ | refine R_block ?_ | refine R_skip ?_ | refine R_exit ?_ | refine R_ret ?_ | refine I_true ?_ | refine I_false ?_ | refine N_exit ?_ | refine N_ret ?_
      | ((first | apply R_op | apply R_op0)
         · ((repeat (first | simp (maxDischargeDepth := 9) only [RA, Nat.reduceEqDiff, Nat.reduceLT, Nat.reduceLeDiff, Nat.reduceAdd, Nat.reduceSub, Nat.reduceMul, Nat.reduceDiv, Nat.reduceMod, Nat.reducePow, Nat.reduceBEq, Nat.reduceGT, reduceIte, T1, T3, T4, T9, T30, T32, T38, T66] | simp (disch := first | assumption | omega) only [RV])) <;> rfl))
      | (apply R_cond
         · (simp only [RE, Nat.reduceEqDiff, Nat.reduceLT, Nat.reduceLeDiff, Nat.reduceBEq, reduceIte] <;> rfl))
      | (apply R_grd
         · (simp only [yieldedA, RY, Nat.reduceEqDiff, reduceIte] <;> rfl)))
    obtain ⟨G, hG⟩ : ∃ G, G = newRowH h1 .rw 1 [w8 97#8] := ⟨_, rfl⟩
    rw [← hG]
    have q0 : G.obj h1.nx = some (.row .rw 1 (b8 [97#8])) := by rw [hG]; simp [RH]; rfl
    have nG : G.nx = h1.nx + 1 := by rw [hG]; simp only [RH]
    have ownG : OwB H.nx G v1 (sealS lk1 ln2 [97#8] lText) := by rw [hG]; exact own1.new
    clear hG
    refine R_fn ?_ (openSeal n G lk1 ln2 hk hn (.slice (some ⟨h1.nx, 0, none⟩) 1 1) v1 [97#8] lText (by_row (k := .rw) (by omega) q0 (Nat.le_refl _) rfl) ownG.sl (by simp) (by omega)) ?_
    · rfl
    intro v2 h2 ⟨⟨u, hv2, own2⟩, F2⟩
    subst hv2
    have b12 : By h2 v1 (sealS lk1 ln2 [97#8] lText) := ownG.sl.fr0 F2
    have hsl : (sealS lk1 ln2 [97#8] lText).length = 20 := by rw [sealS_length, lt4]
    have l1 := S38len b12
    rw [hsl] at l1
    repeat (first
      | refine R_seq ?_ | refine R_region ?_ | refine R_nil ?_ | refine Q_seq ?_ | refine Q_norm ?_ | refine Q_seqr ?_ | refine Q_seqx ?_ | refine Q_bl ?_ | refine Q_blr ?_ | refine Q_blx ?_ | refine Q_blo rfl ?_ | refine R_block ?_ | refine R_skip ?_ | refine R_exit ?_ | refine R_ret ?_ | refine I_true ?_ | refine I_false ?_ | refine N_exit ?_ | refine N_ret ?_
      | ((first | apply R_op | apply R_op0)
         · ((repeat (first | simp (maxDischargeDepth := 9) only [RA, Nat.reduceEqDiff, Nat.reduceLT, Nat.reduceLeDiff, Nat.reduceAdd, Nat.reduceSub, Nat.reduceMul, Nat.reduceDiv, Nat.reduceMod, Nat.reducePow, Nat.reduceBEq, Nat.reduceGT, reduceIte, l1, S38str own2.sl, fr_refl, text_eq, T1, T3, T4, T9, T30, T32, T38, T66] | simp (disch := first | assumption | omega) only [RV, l1, S38str own2.sl, fr_refl, text_eq])) <;> rfl))
      | (apply R_cond
         · (simp only [RE, Nat.reduceEqDiff, Nat.reduceLT, Nat.reduceLeDiff, Nat.reduceBEq, reduceIte] <;> rfl))
      | (apply R_grd
         · (simp only [yieldedA, RY, Nat.reduceEqDiff, reduceIte] <;> rfl)))
    (first | refine ⟨.inr rfl, _, rfl, ?_⟩ | refine ⟨.inl rfl, _, rfl, ?_⟩) <;> simp only [packR, upd_apply, Nat.reduceEqDiff, if_true, if_false, reduceIte]
  obtain ⟨v, h1, e1, rfl⟩ := this
  exact isoPhi_eq (by first | rfl | simp only [List.all_cons, List.all_nil, closed_agg8, closed_agg32, closed_w8, closed_w32, closed_w64, closed_iv, Bool.and_true]) (by first | rfl | simp only [closed_agg8, closed_agg32]) e1
end Go.Proofs.Ytfehhihllenjiaa
