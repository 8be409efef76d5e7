/- Sealed bytes: sealed. -/
import Derived.Test.YtfehhihllenjiaaLb
set_option linter.all false
namespace Go.Proofs.Ytfehhihllenjiaa
open Go.Proofs
def oneT (k n : List (BitVec 8)) : List (BitVec 8) := (block k n 0#32).take 32
theorem oneT_length (k n : List (BitVec 8)) : (oneT k n).length = 32 := by unfold oneT; rw [List.length_take, block_length]; rfl
def tagS (k n o s : List (BitVec 8)) : List (BitVec 8) := polyT (oneT k n) (framedS o s)
theorem tagS_length (k n o s : List (BitVec 8)) : (tagS k n o s).length = 16 := polyT_length _ _
def sealS (k n o b : List (BitVec 8)) : List (BitVec 8) := xorS k n 1#32 b ++ tagS k n o (xorS k n 1#32 b)
theorem sealS_length (k n o b : List (BitVec 8)) : (sealS k n o b).length = b.length + 16 := by unfold sealS; rw [List.length_append, xorS_length, tagS_length]
theorem cutVle (kd : Kind) (es n : Nat) {k : List (BitVec 8)} (hk : n ≤ k.length) : cutV (some (.row kd es (b8 k))) 0 n = some (.agg ⟨b8 (k.take n)⟩) := by
  show (if 0 + n ≤ (b8 k).length then some (Value.agg (((b8 k).drop 0).take n).toArray) else none) = _
  rw [b8_length, if_pos (by omega), List.drop_zero]
  unfold b8
  rw [List.map_take]
theorem arr30 {b i c : Nat} : evToArr Try.prog 30 (.slice (some ⟨b, i, none⟩) 32 c) = some (.pointer (some ⟨b, i, none⟩)) := by simp [evToArr, Try.underlying30]
attribute [local irreducible] evOps iter evD evF evC evLoad evStore evAlloc evIndexAddr evIndex evLenB evBox evBin evUn evConvert evExtract evSlice evAppend evCopy evNil evBuild evMakeSlice evBuildSlice evBuiltin Program.underlying
attribute [local irreducible] leB padZ framedS block xorS polyT
theorem inl84 : inlOf Try.prog 84 = true := by kernel_rfl
theorem iso84 : isoOf Try.prog 84 = true := by kernel_rfl
set_option maxRecDepth 20000 in
set_option maxHeartbeats 8000000 in
theorem oneT84 (n : Nat) (k n' : List (BitVec 8)) (hk : k.length = 32) (hn : n'.length = 12) (h : Heap) : fcall Try.prog (n + 8) (.func (.func 84) #[] #[]) [.agg ⟨b8 k⟩, .agg ⟨b8 n'⟩] h = some (.ok (.agg ⟨b8 (oneT k n')⟩), h) := by
  rw [fcall_iso inl84 iso84]
  have : ∃ v h1, evF (cfg0 Try.prog) (n + 7 + 1) 84 [.agg ⟨b8 k⟩, .agg ⟨b8 n'⟩] ⟨fun _ => none, 0⟩ = some (.ok v, h1) ∧ v = (.agg ⟨b8 (oneT k n')⟩) := by
    rw [evF_eq Try.func84 rfl]
    apply evEnd_of_W
    simp only [Try.f84]
    have hbl := block_length k n' 0#32
    have hc := fun (kd : Kind) (es : Nat) => cutVle kd es 32 (k := block k n' 0#32) (by omega)
    have ho : (block k n' 0#32).take 32 = oneT k n' := rfl
    have hol := oneT_length k n'
    rw [ho] at hc
    have hp := fun (H : Heap) (p : Nat) => puts8 (h := H) (b := p) (es := 1) hol (List.length_replicate (n := 32) (a := 0#8))
    repeat (first
      | refine R_seq ?_ | refine R_region ?_ | refine R_nil ?_ | refine Q_seq ?_ | refine Q_norm ?_ | refine Q_seqr ?_ | refine Q_seqx ?_ | refine Q_bl ?_ | refine Q_blr ?_ | refine Q_blx ?_ | refine Q_blo rfl ?_ | refine R_block ?_ | refine R_skip ?_ | refine R_exit ?_ | refine R_ret ?_ | refine I_true ?_ | refine I_false ?_ | refine N_exit ?_ | refine N_ret ?_
      | ((first | apply R_op | apply R_op0)
         · ((repeat (first | simp (maxDischargeDepth := 9) only [RA, Nat.reduceEqDiff, Nat.reduceLT, Nat.reduceLeDiff, Nat.reduceAdd, Nat.reduceSub, Nat.reduceMul, Nat.reduceDiv, Nat.reduceMod, Nat.reducePow, Nat.reduceBEq, Nat.reduceGT, reduceIte, hk, hn, cut8 hk, cut8 hn, block45 (n + 1) k n' hk hn, puts8 hbl (List.length_replicate (n := 64) (a := 0#8)), arr30, hc, hp, T22, T30, T32, T33] | simp (disch := first | assumption | omega) only [RV, hk, hn, cut8 hk, cut8 hn, block45 (n + 1) k n' hk hn, puts8 hbl (List.length_replicate (n := 64) (a := 0#8)), arr30, hc, hp])) <;> rfl))
      | (apply R_cond
         · (simp only [RE, Nat.reduceEqDiff, Nat.reduceLT, Nat.reduceLeDiff, Nat.reduceBEq, reduceIte] <;> rfl))
      | (apply R_grd
         · (simp only [yieldedA, RY, Nat.reduceEqDiff, reduceIte] <;> rfl)))
    (first | refine ⟨.inr rfl, ?_⟩ | refine ⟨.inl rfl, ?_⟩)
    simp only [evResultList, evResult, RA, Nat.reduceEqDiff, Nat.reduceLT, Nat.reduceLeDiff, Nat.reduceAdd, Nat.reduceSub, Nat.reduceMul, Nat.reduceDiv, Nat.reduceMod, Nat.reducePow, Nat.reduceBEq, Nat.reduceGT, reduceIte, cut8 hol, T22, T30, T32, T33]
    refine ⟨_, rfl, ?_⟩
    rfl
  obtain ⟨v, h1, e1, rfl⟩ := this
  exact isoPhi_eq (by first | rfl | simp only [List.all_cons, List.all_nil, closed_agg8, closed_agg32, closed_w8, closed_w32, closed_w64, closed_iv, Bool.and_true]) (by first | rfl | simp only [closed_agg8, closed_agg32]) e1
theorem inl111 : inlOf Try.prog 111 = true := by kernel_rfl
theorem iso111 : isoOf Try.prog 111 = false := by kernel_rfl
attribute [local irreducible] oneT
set_option maxRecDepth 20000 in
set_option maxHeartbeats 8000000 in
theorem tag111 (q : Nat) (h : Heap) (k n' : List (BitVec 8)) (hk : k.length = 32) (hn : n'.length = 12) (v w : Value) (a b : List (BitVec 8)) (ha : By h v a) (hb : By h w b) (hal : a.length ≤ 1048576) (hbl : b.length ≤ 1048576) :
    ∃ v' h', fcall Try.prog (q + 9) (.func (.func 111) #[] #[]) [.agg ⟨b8 k⟩, .agg ⟨b8 n'⟩, v, w] h = some (.ok v', h') ∧ By h' v' (tagS k n' a b) ∧ Fr h.nx h h' := by
  rw [fcall_inl inl111 iso111, evF_eq Try.func111 rfl]
  apply evEnd_of_W
  simp only [Try.f111]
  have hpa := padZ_le a
  have hpb := padZ_le b
  repeat (first
    | refine R_seq ?_ | refine R_region ?_ | refine R_nil ?_ | refine Q_seq ?_ | refine Q_norm ?_ | refine Q_seqr ?_ | refine Q_seqx ?_ | refine Q_bl ?_ | refine Q_blr ?_ | refine Q_blx ?_ | refine Q_blo rfl ?_ | refine R_block ?_ | refine R_skip ?_ | refine R_exit ?_ | refine R_ret ?_ | refine I_true ?_ | refine I_false ?_ | refine N_exit ?_ | refine N_ret ?_
    | ((first | apply R_op | apply R_op0)
       · ((repeat (first | simp (maxDischargeDepth := 9) only [RA, Nat.reduceEqDiff, Nat.reduceLT, Nat.reduceLeDiff, Nat.reduceAdd, Nat.reduceSub, Nat.reduceMul, Nat.reduceDiv, Nat.reduceMod, Nat.reducePow, Nat.reduceBEq, Nat.reduceGT, reduceIte, hk, hn, cut8 hk, cut8 hn, oneT84 q k n' hk hn, T30, T32, T38, T57] | simp (disch := first | assumption | omega) only [RV, hk, hn, cut8 hk, cut8 hn, oneT84 q k n' hk hn])) <;> rfl))
    | (apply R_cond
       · (simp only [RE, Nat.reduceEqDiff, Nat.reduceLT, Nat.reduceLeDiff, Nat.reduceBEq, reduceIte] <;> rfl))
    | (apply R_grd
       · (simp only [yieldedA, RY, Nat.reduceEqDiff, reduceIte] <;> rfl)))
  obtain ⟨H, hH⟩ : ∃ H, H = newRowH (newRowH h .rw 1 (b8 k)) .rw 1 (b8 n') := ⟨_, rfl⟩
  rw [← hH]
  have nH : H.nx = h.nx + 2 := by rw [hH]; simp only [RH]
  have FH : Fr h.nx h H := by rw [hH]; (repeat (first | assumption | exact Fr.refl _ _ | refine Fr.new ?_ ?_ _ _ _ | refine Fr.put ?_ ?_ _ | omega | (simp only [RH]; omega)))
  clear hH
  refine R_fn ?_ (framed83 (q + 6) H v w a b (ha.fr0 FH) (hb.fr0 FH) hal hbl) ?_
  · rfl
  intro v1 h1 ⟨own1, F1⟩
  have hfl : (framedS a b).length ≤ 2147483648 := by
    unfold framedS
    rw [List.length_append, List.length_append, List.length_append, leB_length, leB_length]; omega
  have n1 := F1.1
  repeat (first
    | refine R_seq ?_ | refine R_region ?_ | refine R_nil ?_ | refine Q_seq ?_ | refine Q_norm ?_ | refine Q_seqr ?_ | refine Q_seqx ?_ | refine Q_bl ?_ | refine Q_blr ?_ | refine Q_blx ?_ | refine Q_blo rfl ?_ | refine R_block ?_ | refine R_skip ?_ | refine R_exit ?_ | refine R_ret ?_ | refine I_true ?_ | refine I_false ?_ | refine N_exit ?_ | refine N_ret ?_
    | ((first | apply R_op | apply R_op0)
       · ((repeat (first | simp (maxDischargeDepth := 9) only [RA, Nat.reduceEqDiff, Nat.reduceLT, Nat.reduceLeDiff, Nat.reduceAdd, Nat.reduceSub, Nat.reduceMul, Nat.reduceDiv, Nat.reduceMod, Nat.reducePow, Nat.reduceBEq, Nat.reduceGT, reduceIte, T30, T32, T38, T57] | simp (disch := first | assumption | omega) only [RV])) <;> rfl))
    | (apply R_cond
       · (simp only [RE, Nat.reduceEqDiff, Nat.reduceLT, Nat.reduceLeDiff, Nat.reduceBEq, reduceIte] <;> rfl))
    | (apply R_grd
       · (simp only [yieldedA, RY, Nat.reduceEqDiff, reduceIte] <;> rfl)))
  refine R_fn ?_ (sum63 q h1 (oneT k n') (oneT_length k n') v1 (framedS a b) own1.sl hfl) ?_
  · rfl
  intro v2 h2 ⟨hv2, F2⟩
  subst hv2
  have n2 := F2.1
  have hT : polyT (oneT k n') (framedS a b) = tagS k n' a b := rfl
  have hl := tagS_length k n' a b
  rw [hT]
  have hp := fun (H : Heap) (p : Nat) => puts8 (h := H) (b := p) (es := 1) hl (List.length_replicate (n := 16) (a := 0#8))
  repeat (first
    | refine R_seq ?_ | refine R_region ?_ | refine R_nil ?_ | refine Q_seq ?_ | refine Q_norm ?_ | refine Q_seqr ?_ | refine Q_seqx ?_ | refine Q_bl ?_ | refine Q_blr ?_ | refine Q_blx ?_ | refine Q_blo rfl ?_ | refine R_block ?_ | refine R_skip ?_ | refine R_exit ?_ | refine R_ret ?_ | refine I_true ?_ | refine I_false ?_ | refine N_exit ?_ | refine N_ret ?_
    | ((first | apply R_op | apply R_op0)
       · ((repeat (first | simp (maxDischargeDepth := 9) only [RA, Nat.reduceEqDiff, Nat.reduceLT, Nat.reduceLeDiff, Nat.reduceAdd, Nat.reduceSub, Nat.reduceMul, Nat.reduceDiv, Nat.reduceMod, Nat.reducePow, Nat.reduceBEq, Nat.reduceGT, reduceIte, hp, T30, T32, T38, T57] | simp (disch := first | assumption | omega) only [RV, hp])) <;> rfl))
    | (apply R_cond
       · (simp only [RE, Nat.reduceEqDiff, Nat.reduceLT, Nat.reduceLeDiff, Nat.reduceBEq, reduceIte] <;> rfl))
    | (apply R_grd
       · (simp only [yieldedA, RY, Nat.reduceEqDiff, reduceIte] <;> rfl)))
  refine ⟨.inr rfl, _, rfl, ?_, FH.trans ((F1.le (by omega)).trans ((F2.le (by omega)).trans (by (repeat (first | assumption | exact Fr.refl _ _ | refine Fr.new ?_ ?_ _ _ _ | refine Fr.put ?_ ?_ _ | omega | (simp only [RH]; omega))))))⟩
  (try simp only [List.map_cons, List.map_nil, RH, Nat.reduceAdd, Nat.reduceEqDiff, reduceIte, ev_tmp, ev_const, lit_iv, lit_w8, lit_w32, lit_w64, envOf0, envOf1, envOf2, envOf3, envOf4, envOf5, packR, T30, T32, T38, T57])
  exact by_row (k := .rw) (by simp only [RH]; omega) (by simp only [RH]) (Nat.le_refl _) hl
attribute [local irreducible] tagS sealS
theorem inl79 : inlOf Try.prog 79 = true := by kernel_rfl
theorem iso79 : isoOf Try.prog 79 = false := by kernel_rfl
set_option maxRecDepth 20000 in
set_option maxHeartbeats 8000000 in
theorem seal79 (q : Nat) (h : Heap) (k n' : List (BitVec 8)) (hk : k.length = 32) (hn : n'.length = 12) (v w : Value) (a b : List (BitVec 8)) (ha : By h v a) (hb : By h w b) (hal : a.length ≤ 1048576) (hbl : b.length ≤ 1048576) :
    ∃ v' h', fcall Try.prog (q + 10) (.func (.func 79) #[] #[]) [.agg ⟨b8 k⟩, .agg ⟨b8 n'⟩, v, w] h = some (.ok v', h') ∧ OwB h.nx h' v' (sealS k n' a b) ∧ Fr h.nx h h' := by
  rw [fcall_inl inl79 iso79, evF_eq Try.func79 rfl]
  apply evEnd_of_W
  simp only [Try.f79]
  repeat (first
    | refine R_seq ?_ | refine R_region ?_ | refine R_nil ?_ | refine Q_seq ?_ | refine Q_norm ?_ | refine Q_seqr ?_ | refine Q_seqx ?_ | refine Q_bl ?_ | refine Q_blr ?_ | refine Q_blx ?_ | refine Q_blo rfl ?_ | refine R_block ?_ | refine R_skip ?_ | refine R_exit ?_ | refine R_ret ?_ | refine I_true ?_ | refine I_false ?_ | refine N_exit ?_ | refine N_ret ?_
    | ((first | apply R_op | apply R_op0)
       · ((repeat (first | simp (maxDischargeDepth := 9) only [RA, Nat.reduceEqDiff, Nat.reduceLT, Nat.reduceLeDiff, Nat.reduceAdd, Nat.reduceSub, Nat.reduceMul, Nat.reduceDiv, Nat.reduceMod, Nat.reducePow, Nat.reduceBEq, Nat.reduceGT, reduceIte, hk, hn, cut8 hk, cut8 hn, T22, T30, T32, T38] | simp (disch := first | assumption | omega) only [RV, hk, hn, cut8 hk, cut8 hn])) <;> rfl))
    | (apply R_cond
       · (simp only [RE, Nat.reduceEqDiff, Nat.reduceLT, Nat.reduceLeDiff, Nat.reduceBEq, reduceIte] <;> rfl))
    | (apply R_grd
       · (simp only [yieldedA, RY, Nat.reduceEqDiff, reduceIte] <;> rfl)))
  obtain ⟨H, hH⟩ : ∃ H, H = newRowH (newRowH h .rw 1 (b8 k)) .rw 1 (b8 n') := ⟨_, rfl⟩
  rw [← hH]
  have o0 : H.obj h.nx = some (.row .rw 1 (b8 k)) := by rw [hH]; simp [RH]
  have o1 : H.obj (h.nx + 1) = some (.row .rw 1 (b8 n')) := by rw [hH]; simp [RH]
  have nH : H.nx = h.nx + 2 := by rw [hH]; simp only [RH]
  have FH : Fr h.nx h H := by rw [hH]; (repeat (first | assumption | exact Fr.refl _ _ | refine Fr.new ?_ ?_ _ _ _ | refine Fr.put ?_ ?_ _ | omega | (simp only [RH]; omega)))
  clear hH
  refine R_fn ?_ (xor48 (q + 2) H k n' hk hn 1#32 w b (hb.fr0 FH) (by omega)) ?_
  · rfl
  intro v1 h1 ⟨own1, F1⟩
  have n1 := F1.1
  have p0 := F1.2 h.nx (by omega)
  rw [o0] at p0
  have p1 := F1.2 (h.nx + 1) (by omega)
  rw [o1] at p1
  have hxl : (xorS k n' 1#32 b).length ≤ 1048576 := by rw [xorS_length]; exact hbl
  repeat (first
    | refine R_seq ?_ | refine R_region ?_ | refine R_nil ?_ | refine Q_seq ?_ | refine Q_norm ?_ | refine Q_seqr ?_ | refine Q_seqx ?_ | refine Q_bl ?_ | refine Q_blr ?_ | refine Q_blx ?_ | refine Q_blo rfl ?_ | refine R_block ?_ | refine R_skip ?_ | refine R_exit ?_ | refine R_ret ?_ | refine I_true ?_ | refine I_false ?_ | refine N_exit ?_ | refine N_ret ?_
    | ((first | apply R_op | apply R_op0)
       · ((repeat (first | simp (maxDischargeDepth := 9) only [RA, Nat.reduceEqDiff, Nat.reduceLT, Nat.reduceLeDiff, Nat.reduceAdd, Nat.reduceSub, Nat.reduceMul, Nat.reduceDiv, Nat.reduceMod, Nat.reducePow, Nat.reduceBEq, Nat.reduceGT, reduceIte, p0, p1, cut8 hk, cut8 hn, T22, T30, T32, T38] | simp (disch := first | assumption | omega) only [RV, p0, p1, cut8 hk, cut8 hn])) <;> rfl))
    | (apply R_cond
       · (simp only [RE, Nat.reduceEqDiff, Nat.reduceLT, Nat.reduceLeDiff, Nat.reduceBEq, reduceIte] <;> rfl))
    | (apply R_grd
       · (simp only [yieldedA, RY, Nat.reduceEqDiff, reduceIte] <;> rfl)))
  refine R_fn ?_ (tag111 q h1 k n' hk hn v v1 a (xorS k n' 1#32 b) ((ha.fr0 FH).fr0 (F1.le (by omega))) own1.sl hal hxl) ?_
  · rfl
  intro v2 h2 ⟨b2, F2⟩
  have n2 := F2.1
  have own2 : OwB H.nx h2 v1 (xorS k n' 1#32 b) := own1.keep n2 (fun r hr => F2.2 r (own1.rows r hr).2)
  repeat (first
    | refine R_seq ?_ | refine R_region ?_ | refine R_nil ?_ | refine Q_seq ?_ | refine Q_norm ?_ | refine Q_seqr ?_ | refine Q_seqx ?_ | refine Q_bl ?_ | refine Q_blr ?_ | refine Q_blx ?_ | refine Q_blo rfl ?_ | refine R_block ?_ | refine R_skip ?_ | refine R_exit ?_ | refine R_ret ?_ | refine I_true ?_ | refine I_false ?_ | refine N_exit ?_ | refine N_ret ?_
    | ((first | apply R_op | apply R_op0)
       · ((repeat (first | simp (maxDischargeDepth := 9) only [RA, Nat.reduceEqDiff, Nat.reduceLT, Nat.reduceLeDiff, Nat.reduceAdd, Nat.reduceSub, Nat.reduceMul, Nat.reduceDiv, Nat.reduceMod, Nat.reducePow, Nat.reduceBEq, Nat.reduceGT, reduceIte, T22, T30, T32, T38] | simp (disch := first | assumption | omega) only [RV])) <;> rfl))
    | (apply R_cond
       · (simp only [RE, Nat.reduceEqDiff, Nat.reduceLT, Nat.reduceLeDiff, Nat.reduceBEq, reduceIte] <;> rfl))
    | (apply R_grd
       · (simp only [yieldedA, RY, Nat.reduceEqDiff, reduceIte] <;> rfl)))
  refine R_app E38 Try.underlying38 (v := v1) (w := v2) (lo := H.nx) (xs := xorS k n' 1#32 b) (ys := tagS k n' a (xorS k n' 1#32 b)) ?_ ?_ own2 b2 (by omega) (by rw [tagS_length]; omega) ?_
  · first | rfl | (first | rw [ev_tmp] | rw [ev_const] | skip) <;> simp only [upd_apply, Nat.reduceEqDiff, if_true, if_false, reduceIte, lit_iv, lit_w8]
  · first | rfl | (first | rw [ev_tmp] | rw [ev_const] | skip) <;> simp only [upd_apply, Nat.reduceEqDiff, if_true, if_false, reduceIte, lit_iv, lit_w8]
  intro v3 h3 own3 wt3
  have F3 := wt3.owFr (by omega) own2
  repeat (first
    | refine R_seq ?_ | refine R_region ?_ | refine R_nil ?_ | refine Q_seq ?_ | refine Q_norm ?_ | refine Q_seqr ?_ | refine Q_seqx ?_ | refine Q_bl ?_ | refine Q_blr ?_ | refine Q_blx ?_ | refine Q_blo rfl ?_ | refine R_block ?_ | refine R_skip ?_ | refine R_exit ?_ | refine R_ret ?_ | refine I_true ?_ | refine I_false ?_ | refine N_exit ?_ | refine N_ret ?_
    | ((first | apply R_op | apply R_op0)
       · ((repeat (first | simp (maxDischargeDepth := 9) only [RA, Nat.reduceEqDiff, Nat.reduceLT, Nat.reduceLeDiff, Nat.reduceAdd, Nat.reduceSub, Nat.reduceMul, Nat.reduceDiv, Nat.reduceMod, Nat.reducePow, Nat.reduceBEq, Nat.reduceGT, reduceIte, T22, T30, T32, T38] | simp (disch := first | assumption | omega) only [RV])) <;> rfl))
    | (apply R_cond
       · (simp only [RE, Nat.reduceEqDiff, Nat.reduceLT, Nat.reduceLeDiff, Nat.reduceBEq, reduceIte] <;> rfl))
    | (apply R_grd
       · (simp only [yieldedA, RY, Nat.reduceEqDiff, reduceIte] <;> rfl)))
  refine ⟨.inr rfl, _, rfl, ?_, FH.trans ((F1.le (by omega)).trans ((F2.le (by omega)).trans (F3.le (by omega))))⟩
  (try simp only [List.map_cons, List.map_nil, RH, Nat.reduceAdd, Nat.reduceEqDiff, reduceIte, ev_tmp, ev_const, lit_iv, lit_w8, lit_w32, lit_w64, envOf0, envOf1, envOf2, envOf3, envOf4, envOf5, packR, T22, T30, T32, T38])
  unfold sealS
  exact own3.le (by omega)
end Go.Proofs.Ytfehhihllenjiaa
