/- Sealed bytes: the document's answer. -/
import Derived.Test.YtfehhihllenjiaaLk
import Derived.Test.YtfehhihllenjiaaNc
import Derived.Test.YtfehhihllenjiaaGc
set_option linter.all false
namespace Go.Proofs.Ytfehhihllenjiaa
open Go.Proofs
attribute [local irreducible] evOps iter evD evF evC evLoad evStore evAlloc evIndexAddr evIndex evLenB evBox evBin evUn evConvert evExtract evSlice evAppend evCopy evNil evBuild evMakeSlice evBuildSlice evBuiltin Program.underlying
attribute [local irreducible] leB padZ framedS block xorS polyT oneT tagS sealS ask5L lk1 ln2 lText frB cpy
theorem inl80 : inlOf Try.prog 80 = true := by kernel_rfl
theorem iso80 : isoOf Try.prog 80 = false := by kernel_rfl
set_option maxRecDepth 20000 in
set_option maxHeartbeats 8000000 in
theorem seal80 (q : Nat) (h : Heap) (k n' : List (BitVec 8)) (hk : k.length = 32) (hn : n'.length = 12) (v w : Value) (a b : List (BitVec 8)) (ha : By h v a) (hb : By h w b) (hal : a.length ≤ 262144) (hbl : b.length ≤ 262144) :
    ∃ v' h', fcall Try.prog (q + 11) (.func (.func 80) #[] #[]) [.agg ⟨b8 k⟩, .agg ⟨b8 n'⟩, v, w] h = some (.ok v', h') ∧ OwB h.nx h' v' (sealS k n' a b) ∧ Fr h.nx h h' := by
  rw [fcall_inl inl80 iso80, evF_eq Try.func80 rfl]
  apply evEnd_of_W
  simp only [Try.f80]
  have hpa := padK16_le a.length
  repeat (first
    | refine R_seq ?_ | refine R_region ?_ | refine R_nil ?_ | refine Q_seq ?_ | refine Q_norm ?_ | refine Q_seqr ?_ | refine Q_seqx ?_ | refine Q_bl ?_ | refine Q_blr ?_ | refine Q_blx ?_ | refine Q_blo rfl ?_ | refine R_block ?_ | refine R_skip ?_ | refine R_exit ?_ | refine R_ret ?_ | refine I_true ?_ | refine I_false ?_ | refine N_exit ?_ | refine N_ret ?_
    | ((first | apply R_op | apply R_op0)
       · ((repeat (first | simp (maxDischargeDepth := 9) only [RA, Nat.reduceEqDiff, Nat.reduceLT, Nat.reduceLeDiff, Nat.reduceAdd, Nat.reduceSub, Nat.reduceMul, Nat.reduceDiv, Nat.reduceMod, Nat.reducePow, Nat.reduceBEq, Nat.reduceGT, reduceIte, hk, hn, cut8 hk, cut8 hn, T22, T30, T32, T38, T57] | simp (disch := first | assumption | omega) only [RV, hk, hn, cut8 hk, cut8 hn])) <;> rfl))
    | (apply R_cond
       · (simp only [RE, Nat.reduceEqDiff, Nat.reduceLT, Nat.reduceLeDiff, Nat.reduceBEq, reduceIte, hk, hn, cut8 hk, cut8 hn, T22, T30, T32, T38, T57] <;> rfl))
    | (apply R_grd
       · (simp only [yieldedA, RY, Nat.reduceEqDiff, reduceIte, hk, hn, cut8 hk, cut8 hn, T22, T30, T32, T38, T57] <;> rfl)))
  obtain ⟨H, hH⟩ : ∃ H, H = newRowH (newRowH h .rw 1 (b8 k)) .rw 1 (b8 n') := ⟨_, rfl⟩
  rw [← hH]
  have o0 : H.obj h.nx = some (.row .rw 1 (b8 k)) := by rw [hH]; simp [RH]
  have o1 : H.obj (h.nx + 1) = some (.row .rw 1 (b8 n')) := by rw [hH]; simp [RH]
  have nH : H.nx = h.nx + 2 := by rw [hH]; simp only [RH]
  have FH : Fr h.nx h H := by rw [hH]; (repeat (first | assumption | exact Fr.refl _ _ | refine Fr.new ?_ ?_ _ _ _ | refine Fr.put ?_ ?_ _ | omega | (simp only [RH]; omega)))
  clear hH
  refine R_fn ?_ (xor49 (q + 4) H k n' hk hn 1#32 w b (hb.fr0 FH) (by omega)) ?_
  · rfl
  intro v1 h1 ⟨own1, F1⟩
  have n1 := F1.1
  have p0 := F1.2 h.nx (by omega)
  rw [o0] at p0
  have p1 := F1.2 (h.nx + 1) (by omega)
  rw [o1] at p1
  have hxl : (xorS k n' 1#32 b).length ≤ 262144 := by rw [xorS_length]; exact hbl
  have hfl := framedS_length a (xorS k n' 1#32 b)
  have hpb := padK16_le (xorS k n' 1#32 b).length
  repeat (first
    | refine R_seq ?_ | refine R_region ?_ | refine R_nil ?_ | refine Q_seq ?_ | refine Q_norm ?_ | refine Q_seqr ?_ | refine Q_seqx ?_ | refine Q_bl ?_ | refine Q_blr ?_ | refine Q_blx ?_ | refine Q_blo rfl ?_ | refine R_block ?_ | refine R_skip ?_ | refine R_exit ?_ | refine R_ret ?_ | refine I_true ?_ | refine I_false ?_ | refine N_exit ?_ | refine N_ret ?_
    | ((first | apply R_op | apply R_op0)
       · ((repeat (first | simp (maxDischargeDepth := 9) only [RA, Nat.reduceEqDiff, Nat.reduceLT, Nat.reduceLeDiff, Nat.reduceAdd, Nat.reduceSub, Nat.reduceMul, Nat.reduceDiv, Nat.reduceMod, Nat.reducePow, Nat.reduceBEq, Nat.reduceGT, reduceIte, p0, p1, cut8 hk, cut8 hn, oneT85 q k n' hk hn, T22, T30, T32, T38, T57] | simp (disch := first | assumption | omega) only [RV, p0, p1, cut8 hk, cut8 hn, oneT85 q k n' hk hn])) <;> rfl))
    | (apply R_cond
       · (simp only [RE, Nat.reduceEqDiff, Nat.reduceLT, Nat.reduceLeDiff, Nat.reduceBEq, reduceIte, p0, p1, cut8 hk, cut8 hn, oneT85 q k n' hk hn, T22, T30, T32, T38, T57] <;> rfl))
    | (apply R_grd
       · (simp only [yieldedA, RY, Nat.reduceEqDiff, reduceIte, p0, p1, cut8 hk, cut8 hn, oneT85 q k n' hk hn, T22, T30, T32, T38, T57] <;> rfl)))
  refine R_fn ?_ (framed86 (q + 9) h1 v v1 a (xorS k n' 1#32 b) ((ha.fr0 FH).fr0 (F1.le (by omega))) own1.sl (by omega) (by omega)) ?_
  · rfl
  intro v2 h2 ⟨own2, F2⟩
  have n2 := F2.1
  repeat (first
    | refine R_seq ?_ | refine R_region ?_ | refine R_nil ?_ | refine Q_seq ?_ | refine Q_norm ?_ | refine Q_seqr ?_ | refine Q_seqx ?_ | refine Q_bl ?_ | refine Q_blr ?_ | refine Q_blx ?_ | refine Q_blo rfl ?_ | refine R_block ?_ | refine R_skip ?_ | refine R_exit ?_ | refine R_ret ?_ | refine I_true ?_ | refine I_false ?_ | refine N_exit ?_ | refine N_ret ?_
    | ((first | apply R_op | apply R_op0)
       · ((repeat (first | simp (maxDischargeDepth := 9) only [RA, Nat.reduceEqDiff, Nat.reduceLT, Nat.reduceLeDiff, Nat.reduceAdd, Nat.reduceSub, Nat.reduceMul, Nat.reduceDiv, Nat.reduceMod, Nat.reducePow, Nat.reduceBEq, Nat.reduceGT, reduceIte, T22, T30, T32, T38, T57] | simp (disch := first | assumption | omega) only [RV])) <;> rfl))
    | (apply R_cond
       · (simp only [RE, Nat.reduceEqDiff, Nat.reduceLT, Nat.reduceLeDiff, Nat.reduceBEq, reduceIte, T22, T30, T32, T38, T57] <;> rfl))
    | (apply R_grd
       · (simp only [yieldedA, RY, Nat.reduceEqDiff, reduceIte, T22, T30, T32, T38, T57] <;> rfl)))
  refine R_fn ?_ (sum64 (q + 7) h2 (oneT k n') (oneT_length k n') v2 (framedS a (xorS k n' 1#32 b)) own2.sl (by omega)) ?_
  · rfl
  intro v3 h3 ⟨hv3, F3⟩
  subst hv3
  have n3 := F3.1
  have hT : polyT (oneT k n') (framedS a (xorS k n' 1#32 b)) = tagS k n' a (xorS k n' 1#32 b) := by unfold tagS; rfl
  rw [hT]
  have ht := tagS_length k n' a (xorS k n' 1#32 b)
  have hp := fun (H : Heap) (p : Nat) => puts8 (h := H) (b := p) (es := 1) ht (List.length_replicate (n := 16) (a := 0#8))
  have hseal : sealS k n' a b = xorS k n' 1#32 b ++ tagS k n' a (xorS k n' 1#32 b) := by unfold sealS; rfl
  generalize tagS k n' a (xorS k n' 1#32 b) = tg at ht hp hseal ⊢
  repeat (first
    | refine R_seq ?_ | refine R_region ?_ | refine R_nil ?_ | refine Q_seq ?_ | refine Q_norm ?_ | refine Q_seqr ?_ | refine Q_seqx ?_ | refine Q_bl ?_ | refine Q_blr ?_ | refine Q_blx ?_ | refine Q_blo rfl ?_ | refine R_block ?_ | refine R_skip ?_ | refine R_exit ?_ | refine R_ret ?_ | refine I_true ?_ | refine I_false ?_ | refine N_exit ?_ | refine N_ret ?_
    | ((first | apply R_op | apply R_op0)
       · ((repeat (first | simp (maxDischargeDepth := 9) only [RA, Nat.reduceEqDiff, Nat.reduceLT, Nat.reduceLeDiff, Nat.reduceAdd, Nat.reduceSub, Nat.reduceMul, Nat.reduceDiv, Nat.reduceMod, Nat.reducePow, Nat.reduceBEq, Nat.reduceGT, reduceIte, hp, rep8, T22, T30, T32, T38, T57] | simp (disch := first | assumption | omega) only [RV, hp, rep8])) <;> rfl))
    | (apply R_cond
       · (simp only [RE, Nat.reduceEqDiff, Nat.reduceLT, Nat.reduceLeDiff, Nat.reduceBEq, reduceIte, hp, rep8, T22, T30, T32, T38, T57] <;> rfl))
    | (apply R_grd
       · (simp only [yieldedA, RY, Nat.reduceEqDiff, reduceIte, hp, rep8, T22, T30, T32, T38, T57] <;> rfl)))
  obtain ⟨G, hG⟩ : ∃ G, G = (newRowH h3 .rw 1 (b8 (List.replicate 16 0#8))).put h3.nx (some (AObj.row .rw 1 (b8 tg))) := ⟨_, rfl⟩
  rw [← hG]
  have oG : G.obj h3.nx = some (.row .rw 1 (b8 tg)) := by rw [hG]; simp [RH]
  have nG : G.nx = h3.nx + 1 := by rw [hG]; simp only [RH]
  have FG : Fr h3.nx h3 G := by rw [hG]; (repeat (first | assumption | exact Fr.refl _ _ | refine Fr.new ?_ ?_ _ _ _ | refine Fr.put ?_ ?_ _ | omega | (simp only [RH]; omega)))
  clear hG
  have F1G : Fr h1.nx h1 G := F2.trans ((F3.trans (FG.le (by omega))).le n2)
  have own1G : OwB H.nx G v1 (xorS k n' 1#32 b) := own1.keep F1G.1 (fun r hr => F1G.2 r (own1.rows r hr).2)
  refine R_app E38 Try.underlying38 (v := v1) (w := .slice (some ⟨h3.nx, 0, none⟩) 16 16) (lo := H.nx) (xs := xorS k n' 1#32 b) (ys := tg) ?_ ?_ own1G (by_row (k := .rw) (by omega) oG (Nat.le_refl _) ht) (by omega) (by omega) ?_
  · first | rfl | (first | rw [ev_tmp] | rw [ev_const] | skip) <;> simp only [upd_apply, Nat.reduceEqDiff, if_true, if_false, reduceIte, lit_iv, lit_w8]
  · first | rfl | (first | rw [ev_tmp] | rw [ev_const] | skip) <;> simp only [upd_apply, Nat.reduceEqDiff, if_true, if_false, reduceIte, lit_iv, lit_w8]
  intro v5 h5 own5 wt5
  have F5 := wt5.owFr (by omega) own1G
  repeat (first
    | refine R_seq ?_ | refine R_region ?_ | refine R_nil ?_ | refine Q_seq ?_ | refine Q_norm ?_ | refine Q_seqr ?_ | refine Q_seqx ?_ | refine Q_bl ?_ | refine Q_blr ?_ | refine Q_blx ?_ | refine Q_blo rfl ?_ | refine R_block ?_ | refine R_skip ?_ | refine R_exit ?_ | refine R_ret ?_ | refine I_true ?_ | refine I_false ?_ | refine N_exit ?_ | refine N_ret ?_
    | ((first | apply R_op | apply R_op0)
       · ((repeat (first | simp (maxDischargeDepth := 9) only [RA, Nat.reduceEqDiff, Nat.reduceLT, Nat.reduceLeDiff, Nat.reduceAdd, Nat.reduceSub, Nat.reduceMul, Nat.reduceDiv, Nat.reduceMod, Nat.reducePow, Nat.reduceBEq, Nat.reduceGT, reduceIte, T22, T30, T32, T38, T57] | simp (disch := first | assumption | omega) only [RV])) <;> rfl))
    | (apply R_cond
       · (simp only [RE, Nat.reduceEqDiff, Nat.reduceLT, Nat.reduceLeDiff, Nat.reduceBEq, reduceIte, T22, T30, T32, T38, T57] <;> rfl))
    | (apply R_grd
       · (simp only [yieldedA, RY, Nat.reduceEqDiff, reduceIte, T22, T30, T32, T38, T57] <;> rfl)))
  refine ⟨.inr rfl, _, rfl, ?_, FH.trans ((F1.le (by omega)).trans ((F1G.le (by omega)).trans (F5.le (by omega))))⟩
  (try simp only [List.map_cons, List.map_nil, RH, Nat.reduceAdd, Nat.reduceEqDiff, reduceIte, ev_tmp, ev_const, lit_iv, lit_w8, lit_w32, lit_w64, envOf0, envOf1, envOf2, envOf3, envOf4, envOf5, packR, T22, T30, T32, T38, T57])
  rw [hseal]
  exact own5.le (by omega)
theorem inl82 : inlOf Try.prog 82 = true := by kernel_rfl
theorem iso82 : isoOf Try.prog 82 = false := by kernel_rfl
set_option maxRecDepth 20000 in
set_option maxHeartbeats 8000000 in
theorem open82s (q : Nat) (h : Heap) (k n' : List (BitVec 8)) (v w : Value) (s : List (BitVec 8)) (hb : By h w s) (hs : s.length < 16) :
    ∃ v' h', fcall Try.prog (q + 10) (.func (.func 82) #[] #[]) [.agg ⟨b8 k⟩, .agg ⟨b8 n'⟩, v, w] h = some (.ok v', h') ∧ v' = .tuple #[.slice none 0 0, iv 3] ∧ Fr h.nx h h' := by
  rw [fcall_inl inl82 iso82, evF_eq Try.func82 rfl]
  apply evEnd_of_W
  simp only [Try.f82]
  repeat (first
    | refine R_seq ?_ | refine R_region ?_ | refine R_nil ?_ | refine Q_seq ?_ | refine Q_norm ?_ | refine Q_seqr ?_ | refine Q_seqx ?_ | refine Q_bl ?_ | refine Q_blr ?_ | refine Q_blx ?_ | refine Q_blo rfl ?_ | refine R_block ?_ | refine R_skip ?_ | refine R_exit ?_ | refine R_ret ?_ | refine I_true ?_ | refine I_false ?_ | refine N_exit ?_ | refine N_ret ?_
    | ((first | apply R_op | apply R_op0)
       · ((repeat (first | simp (maxDischargeDepth := 9) only [RA, Nat.reduceEqDiff, Nat.reduceLT, Nat.reduceLeDiff, Nat.reduceAdd, Nat.reduceSub, Nat.reduceMul, Nat.reduceDiv, Nat.reduceMod, Nat.reducePow, Nat.reduceBEq, Nat.reduceGT, reduceIte, S38len hb, iv_subn hs (by decide), nv_lss0 (show 0 < 16 - s.length by omega), T3, T9, T22, T30, T32, T38, T57] | simp (disch := first | assumption | omega) only [RV, S38len hb, iv_subn hs (by decide), nv_lss0 (show 0 < 16 - s.length by omega)])) <;> rfl))
    | (apply R_cond
       · (simp only [RE, Nat.reduceEqDiff, Nat.reduceLT, Nat.reduceLeDiff, Nat.reduceBEq, reduceIte, S38len hb, iv_subn hs (by decide), nv_lss0 (show 0 < 16 - s.length by omega), T3, T9, T22, T30, T32, T38, T57] <;> rfl))
    | (apply R_grd
       · (simp only [yieldedA, RY, Nat.reduceEqDiff, reduceIte, S38len hb, iv_subn hs (by decide), nv_lss0 (show 0 < 16 - s.length by omega), T3, T9, T22, T30, T32, T38, T57] <;> rfl)))
  refine ⟨.inr rfl, _, rfl, ?_, by (repeat (first | assumption | exact Fr.refl _ _ | refine Fr.new ?_ ?_ _ _ _ | refine Fr.put ?_ ?_ _ | omega | (simp only [RH]; omega)))⟩
  (try simp only [List.map_cons, List.map_nil, RH, Nat.reduceAdd, Nat.reduceEqDiff, reduceIte, ev_tmp, ev_const, lit_iv, lit_w8, lit_w32, lit_w64, envOf0, envOf1, envOf2, envOf3, envOf4, envOf5, packR, T3, T9, T22, T30, T32, T38, T57])
set_option maxRecDepth 20000 in
set_option maxHeartbeats 8000000 in
theorem open82 (q : Nat) (h : Heap) (k n' : List (BitVec 8)) (hk : k.length = 32) (hn : n'.length = 12) (v w : Value) (a s : List (BitVec 8)) (ha : By h v a) (hb : By h w s) (hal : a.length ≤ 262144) (hbl : s.length ≤ 262144) (hs : 16 ≤ s.length) :
    ∃ v' h', fcall Try.prog (q + 11) (.func (.func 82) #[] #[]) [.agg ⟨b8 k⟩, .agg ⟨b8 n'⟩, v, w] h = some (.ok v', h') ∧ (if s.drop (s.length - 16) = tagS k n' a (s.take (s.length - 16)) then ∃ u, v' = .tuple #[u, iv 0] ∧ OwB h.nx h' u (xorS k n' 1#32 (s.take (s.length - 16))) else v' = .tuple #[.slice none 0 0, iv 4]) ∧ Fr h.nx h h' := by
  rw [fcall_inl inl82 iso82, evF_eq Try.func82 rfl]
  apply evEnd_of_W
  simp only [Try.f82]
  repeat (first
    | refine R_seq ?_ | refine R_region ?_ | refine R_nil ?_ | refine Q_seq ?_ | refine Q_norm ?_ | refine Q_seqr ?_ | refine Q_seqx ?_ | refine Q_bl ?_ | refine Q_blr ?_ | refine Q_blx ?_ | refine Q_blo rfl ?_ | refine R_block ?_ | refine R_skip ?_ | refine R_exit ?_ | refine R_ret ?_ | refine I_true ?_ | refine I_false ?_ | refine N_exit ?_ | refine N_ret ?_
    | ((first | apply R_op | apply R_op0)
       · ((repeat (first | simp (maxDischargeDepth := 9) only [RA, Nat.reduceEqDiff, Nat.reduceLT, Nat.reduceLeDiff, Nat.reduceAdd, Nat.reduceSub, Nat.reduceMul, Nat.reduceDiv, Nat.reduceMod, Nat.reducePow, Nat.reduceBEq, Nat.reduceGT, reduceIte, hk, hn, cut8 hk, cut8 hn, S38len hb, hs, T3, T9, T22, T30, T32, T38, T57] | simp (disch := first | assumption | omega) only [RV, hk, hn, cut8 hk, cut8 hn, S38len hb, hs])) <;> rfl))
    | (apply R_cond
       · (simp only [RE, Nat.reduceEqDiff, Nat.reduceLT, Nat.reduceLeDiff, Nat.reduceBEq, reduceIte, hk, hn, cut8 hk, cut8 hn, S38len hb, hs, T3, T9, T22, T30, T32, T38, T57] <;> rfl))
    | (apply R_grd
       · (simp only [yieldedA, RY, Nat.reduceEqDiff, reduceIte, hk, hn, cut8 hk, cut8 hn, S38len hb, hs, T3, T9, T22, T30, T32, T38, T57] <;> rfl)))
  obtain ⟨H, hH⟩ : ∃ H, H = newRowH (newRowH h .rw 1 (b8 k)) .rw 1 (b8 n') := ⟨_, rfl⟩
  rw [← hH]
  have o0 : H.obj h.nx = some (.row .rw 1 (b8 k)) := by rw [hH]; simp [RH]
  have o1 : H.obj (h.nx + 1) = some (.row .rw 1 (b8 n')) := by rw [hH]; simp [RH]
  have nH : H.nx = h.nx + 2 := by rw [hH]; simp only [RH]
  have FH : Fr h.nx h H := by rw [hH]; (repeat (first | assumption | exact Fr.refl _ _ | refine Fr.new ?_ ?_ _ _ _ | refine Fr.put ?_ ?_ _ | omega | (simp only [RH]; omega)))
  clear hH
  have bH := hb.fr0 FH
  have m1 : s.length - 16 ≤ s.length := Nat.sub_le _ _
  have e1 := S38l (l := s.length - 16) bH fr_refl m1
  have e2 := S38h (hh := s.length - 16) bH fr_refl m1
  have s2 := By.subh (mx := none) (hh := s.length - 16) bH m1 (fun m hm => nomatch hm)
  have htl : (s.take (s.length - 16)).length ≤ 262144 := by rw [List.length_take]; omega
  have hfl := framedS_length a (s.take (s.length - 16))
  have hpa := padK16_le a.length
  have hpb := padK16_le (s.take (s.length - 16)).length
  refine D_draw [0, 1, 2, 6, 7, 8] (fun _ => True) (by kernel_rfl) ?_
  repeat (first
    | refine D_nil ?_ | refine I_true ?_ | refine I_false ?_
    | ((first | apply D_op | apply D_op0)
       · ((repeat (first | simp (maxDischargeDepth := 9) only [RA, Nat.reduceEqDiff, Nat.reduceLT, Nat.reduceLeDiff, Nat.reduceAdd, Nat.reduceSub, Nat.reduceMul, Nat.reduceDiv, Nat.reduceMod, Nat.reducePow, Nat.reduceBEq, Nat.reduceGT, reduceIte, e2, o0, o1, cut8 hk, cut8 hn, oneT85 q k n' hk hn, T3, T9, T22, T30, T32, T38, T57] | simp (disch := first | assumption | omega) only [RV, e2, o0, o1, cut8 hk, cut8 hn, oneT85 q k n' hk hn])) <;> rfl)
       · (intro hF; first | exact chk_pure rfl | exact chk_alloc rfl | exact chk_read rfl | exact chk_iso iso49 | exact chk_call iso49 (fun _ _ _ => rfl) | exact chk_iso iso64 | exact chk_call iso64 (fun _ _ _ => rfl) | exact chk_iso iso85 | exact chk_call iso85 (fun _ _ _ => rfl) | exact chk_iso iso86 | exact chk_call iso86 (fun _ _ _ => rfl) | (exfalso; revert hF; decide) | ((first | refine chk_load ?_ | refine chk_slice ?_ | refine chk_convert ?_ | refine chk_store ?_ | refine chk_call (by kernel_rfl) ?_); simp only [eq_self, ev_tmp, upd_apply, rowsOfV, List.mem_cons, List.not_mem_nil, or_false, forall_eq, forall_eq_or_imp, obj_put, obj_new, nx_new, nx_put, Nat.reduceEqDiff, if_true, if_false, reduceIte, implies_true, and_self, and_true, true_or, or_true, e2, o0, o1, cut8 hk, cut8 hn, oneT85 q k n' hk hn, T3, T9, T22, T30, T32, T38, T57])))
    | (apply D_grd
       · (simp only [yieldedA, RY, Nat.reduceEqDiff, reduceIte, e2, o0, o1, cut8 hk, cut8 hn, oneT85 q k n' hk hn, T3, T9, T22, T30, T32, T38, T57] <;> rfl)))
  refine D_fn ?_ (framed86 (q + 9) H v _ a (s.take (s.length - 16)) (ha.fr0 FH) s2 (by omega) (by omega)) iso86 (fun v4 h4 hp _ r _ hr => hp.2.2 r hr) ?_
  · rfl
  intro v2 h2 ⟨own2, F2⟩
  have n2 := F2.1
  repeat (first
    | refine D_nil ?_ | refine I_true ?_ | refine I_false ?_
    | ((first | apply D_op | apply D_op0)
       · ((repeat (first | simp (maxDischargeDepth := 9) only [RA, Nat.reduceEqDiff, Nat.reduceLT, Nat.reduceLeDiff, Nat.reduceAdd, Nat.reduceSub, Nat.reduceMul, Nat.reduceDiv, Nat.reduceMod, Nat.reducePow, Nat.reduceBEq, Nat.reduceGT, reduceIte, T3, T9, T22, T30, T32, T38, T57] | simp (disch := first | assumption | omega) only [RV])) <;> rfl)
       · (intro hF; first | exact chk_pure rfl | exact chk_alloc rfl | exact chk_read rfl | exact chk_iso iso49 | exact chk_call iso49 (fun _ _ _ => rfl) | exact chk_iso iso64 | exact chk_call iso64 (fun _ _ _ => rfl) | exact chk_iso iso85 | exact chk_call iso85 (fun _ _ _ => rfl) | exact chk_iso iso86 | exact chk_call iso86 (fun _ _ _ => rfl) | (exfalso; revert hF; decide) | ((first | refine chk_load ?_ | refine chk_slice ?_ | refine chk_convert ?_ | refine chk_store ?_ | refine chk_call (by kernel_rfl) ?_); simp only [eq_self, ev_tmp, upd_apply, rowsOfV, List.mem_cons, List.not_mem_nil, or_false, forall_eq, forall_eq_or_imp, obj_put, obj_new, nx_new, nx_put, Nat.reduceEqDiff, if_true, if_false, reduceIte, implies_true, and_self, and_true, true_or, or_true, T3, T9, T22, T30, T32, T38, T57])))
    | (apply D_grd
       · (simp only [yieldedA, RY, Nat.reduceEqDiff, reduceIte, T3, T9, T22, T30, T32, T38, T57] <;> rfl)))
  refine D_fn ?_ (sum64 (q + 7) h2 (oneT k n') (oneT_length k n') v2 (framedS a (s.take (s.length - 16))) own2.sl (by omega)) iso64 (fun v4 h4 hp _ r _ hr => hp.2.2 r hr) ?_
  · rfl
  intro v3 h3 ⟨hv3, F3⟩
  subst hv3
  have n3 := F3.1
  have hT : polyT (oneT k n') (framedS a (s.take (s.length - 16))) = tagS k n' a (s.take (s.length - 16)) := by unfold tagS; rfl
  rw [hT]
  have ht := tagS_length k n' a (s.take (s.length - 16))
  generalize htg : tagS k n' a (s.take (s.length - 16)) = tg at ht ⊢
  have hp := fun (H : Heap) (p : Nat) => puts8 (h := H) (b := p) (es := 1) ht (List.length_replicate (n := 16) (a := 0#8))
  repeat (first
    | refine D_nil ?_ | refine I_true ?_ | refine I_false ?_
    | ((first | apply D_op | apply D_op0)
       · ((repeat (first | simp (maxDischargeDepth := 9) only [RA, Nat.reduceEqDiff, Nat.reduceLT, Nat.reduceLeDiff, Nat.reduceAdd, Nat.reduceSub, Nat.reduceMul, Nat.reduceDiv, Nat.reduceMod, Nat.reducePow, Nat.reduceBEq, Nat.reduceGT, reduceIte, hp, rep8, T3, T9, T22, T30, T32, T38, T57] | simp (disch := first | assumption | omega) only [RV, hp, rep8])) <;> rfl)
       · (intro hF; first | exact chk_pure rfl | exact chk_alloc rfl | exact chk_read rfl | exact chk_iso iso49 | exact chk_call iso49 (fun _ _ _ => rfl) | exact chk_iso iso64 | exact chk_call iso64 (fun _ _ _ => rfl) | exact chk_iso iso85 | exact chk_call iso85 (fun _ _ _ => rfl) | exact chk_iso iso86 | exact chk_call iso86 (fun _ _ _ => rfl) | (exfalso; revert hF; decide) | ((first | refine chk_load ?_ | refine chk_slice ?_ | refine chk_convert ?_ | refine chk_store ?_ | refine chk_call (by kernel_rfl) ?_); simp only [eq_self, ev_tmp, upd_apply, rowsOfV, List.mem_cons, List.not_mem_nil, or_false, forall_eq, forall_eq_or_imp, obj_put, obj_new, nx_new, nx_put, Nat.reduceEqDiff, if_true, if_false, reduceIte, implies_true, and_self, and_true, true_or, or_true, hp, rep8, T3, T9, T22, T30, T32, T38, T57])))
    | (apply D_grd
       · (simp only [yieldedA, RY, Nat.reduceEqDiff, reduceIte, hp, rep8, T3, T9, T22, T30, T32, T38, T57] <;> rfl)))
  repeat (first
    | refine R_seq ?_ | refine R_region ?_ | refine R_nil ?_ | refine Q_seq ?_ | refine Q_norm ?_ | refine Q_seqr ?_ | refine Q_seqx ?_ | refine Q_bl ?_ | refine Q_blr ?_ | refine Q_blx ?_ | refine Q_blo rfl ?_ | refine R_block ?_ | refine R_skip ?_ | refine R_exit ?_ | refine R_ret ?_ | refine I_true ?_ | refine I_false ?_ | refine N_exit ?_ | refine N_ret ?_
    | ((first | apply R_op | apply R_op0)
       · ((repeat (first | simp (maxDischargeDepth := 9) only [RA, Nat.reduceEqDiff, Nat.reduceLT, Nat.reduceLeDiff, Nat.reduceAdd, Nat.reduceSub, Nat.reduceMul, Nat.reduceDiv, Nat.reduceMod, Nat.reducePow, Nat.reduceBEq, Nat.reduceGT, reduceIte, T3, T9, T22, T30, T32, T38, T57] | simp (disch := first | assumption | omega) only [RV])) <;> rfl))
    | (apply R_cond
       · (simp only [RE, Nat.reduceEqDiff, Nat.reduceLT, Nat.reduceLeDiff, Nat.reduceBEq, reduceIte, T3, T9, T22, T30, T32, T38, T57] <;> rfl))
    | (apply R_grd
       · (simp only [yieldedA, RY, Nat.reduceEqDiff, reduceIte, T3, T9, T22, T30, T32, T38, T57] <;> rfl)))
  obtain ⟨G, hG⟩ : ∃ G, G = (newRowH h3 .rw 1 (b8 (List.replicate 16 0#8))).put h3.nx (some (AObj.row .rw 1 (b8 tg))) := ⟨_, rfl⟩
  rw [← hG]
  have oG : G.obj h3.nx = some (.row .rw 1 (b8 tg)) := by rw [hG]; simp [RH]
  have nG : G.nx = h3.nx + 1 := by rw [hG]; simp only [RH]
  have FHG : Fr H.nx H G := F2.trans ((F3.trans (by rw [hG]; (repeat (first | assumption | exact Fr.refl _ _ | refine Fr.new ?_ ?_ _ _ _ | refine Fr.put ?_ ?_ _ | omega | (simp only [RH]; omega))))).le n2)
  clear hG
  have bG := bH.fr0 FHG
  have g0 := FHG.2 h.nx (by omega)
  rw [o0] at g0
  have g1 := FHG.2 (h.nx + 1) (by omega)
  rw [o1] at g1
  have bT : By G (.slice (some ⟨h3.nx, 0, none⟩) 16 16) tg := by_row (k := .rw) (by omega) oG (Nat.le_refl _) ht
  have e3 := S38l (l := s.length - 16) bG fr_refl m1
  have s3 := By.subl (l := s.length - 16) bG m1
  have e4 := S38h (hh := s.length - 16) bG fr_refl m1
  have s4 := By.subh (mx := none) (hh := s.length - 16) bG m1 (fun m hm => nomatch hm)
  refine D_draw [0, 1, 4, 5] (fun _ => True) (by kernel_rfl) ?_
  repeat (first
    | refine D_nil ?_ | refine I_true ?_ | refine I_false ?_
    | ((first | apply D_op | apply D_op0)
       · ((repeat (first | simp (maxDischargeDepth := 9) only [RA, Nat.reduceEqDiff, Nat.reduceLT, Nat.reduceLeDiff, Nat.reduceAdd, Nat.reduceSub, Nat.reduceMul, Nat.reduceDiv, Nat.reduceMod, Nat.reducePow, Nat.reduceBEq, Nat.reduceGT, reduceIte, e3, S38str bT, S38str s3, fr_refl, str_neq, T3, T9, T22, T30, T32, T38, T57] | simp (disch := first | assumption | omega) only [RV, e3, S38str bT, S38str s3, fr_refl, str_neq])) <;> rfl)
       · (intro hF; first | exact chk_pure rfl | exact chk_alloc rfl | exact chk_read rfl | exact chk_iso iso49 | exact chk_call iso49 (fun _ _ _ => rfl) | exact chk_iso iso64 | exact chk_call iso64 (fun _ _ _ => rfl) | exact chk_iso iso85 | exact chk_call iso85 (fun _ _ _ => rfl) | exact chk_iso iso86 | exact chk_call iso86 (fun _ _ _ => rfl) | (exfalso; revert hF; decide) | ((first | refine chk_load ?_ | refine chk_slice ?_ | refine chk_convert ?_ | refine chk_store ?_ | refine chk_call (by kernel_rfl) ?_); simp only [eq_self, ev_tmp, upd_apply, rowsOfV, List.mem_cons, List.not_mem_nil, or_false, forall_eq, forall_eq_or_imp, obj_put, obj_new, nx_new, nx_put, Nat.reduceEqDiff, if_true, if_false, reduceIte, implies_true, and_self, and_true, true_or, or_true, e3, S38str bT, S38str s3, fr_refl, str_neq, T3, T9, T22, T30, T32, T38, T57])))
    | (apply D_grd
       · (simp only [yieldedA, RY, Nat.reduceEqDiff, reduceIte, e3, S38str bT, S38str s3, fr_refl, str_neq, T3, T9, T22, T30, T32, T38, T57] <;> rfl)))
  by_cases hc : s.drop (s.length - 16) = tg
  · have hc2 : tg = s.drop (s.length - 16) := hc.symm
    repeat (first
      | refine R_seq ?_ | refine R_region ?_ | refine R_nil ?_ | refine Q_seq ?_ | refine Q_norm ?_ | refine Q_seqr ?_ | refine Q_seqx ?_ | refine Q_bl ?_ | refine Q_blr ?_ | refine Q_blx ?_ | refine Q_blo rfl ?_ | refine R_block ?_ | refine R_skip ?_ | refine R_exit ?_ | refine R_ret ?_ | refine I_true ?_ | refine I_false ?_ | refine N_exit ?_ | refine N_ret ?_
      | ((first | apply R_op | apply R_op0)
         · ((repeat (first | simp (maxDischargeDepth := 9) only [RA, Nat.reduceEqDiff, Nat.reduceLT, Nat.reduceLeDiff, Nat.reduceAdd, Nat.reduceSub, Nat.reduceMul, Nat.reduceDiv, Nat.reduceMod, Nat.reducePow, Nat.reduceBEq, Nat.reduceGT, reduceIte, eq_true hc2, T3, T9, T22, T30, T32, T38, T57] | simp (disch := first | assumption | omega) only [RV, eq_true hc2])) <;> rfl))
      | (apply R_cond
         · (simp only [RE, Nat.reduceEqDiff, Nat.reduceLT, Nat.reduceLeDiff, Nat.reduceBEq, reduceIte, eq_true hc2, T3, T9, T22, T30, T32, T38, T57] <;> rfl))
      | (apply R_grd
         · (simp only [yieldedA, RY, Nat.reduceEqDiff, reduceIte, eq_true hc2, T3, T9, T22, T30, T32, T38, T57] <;> rfl)))
    refine D_draw [0, 1, 4, 5] (fun _ => True) (by kernel_rfl) ?_
    repeat (first
      | refine D_nil ?_ | refine I_true ?_ | refine I_false ?_
      | ((first | apply D_op | apply D_op0)
         · ((repeat (first | simp (maxDischargeDepth := 9) only [RA, Nat.reduceEqDiff, Nat.reduceLT, Nat.reduceLeDiff, Nat.reduceAdd, Nat.reduceSub, Nat.reduceMul, Nat.reduceDiv, Nat.reduceMod, Nat.reducePow, Nat.reduceBEq, Nat.reduceGT, reduceIte, e4, g0, g1, cut8 hk, cut8 hn, T3, T9, T22, T30, T32, T38, T57] | simp (disch := first | assumption | omega) only [RV, e4, g0, g1, cut8 hk, cut8 hn])) <;> rfl)
         · (intro hF; first | exact chk_pure rfl | exact chk_alloc rfl | exact chk_read rfl | exact chk_iso iso49 | exact chk_call iso49 (fun _ _ _ => rfl) | exact chk_iso iso64 | exact chk_call iso64 (fun _ _ _ => rfl) | exact chk_iso iso85 | exact chk_call iso85 (fun _ _ _ => rfl) | exact chk_iso iso86 | exact chk_call iso86 (fun _ _ _ => rfl) | (exfalso; revert hF; decide) | ((first | refine chk_load ?_ | refine chk_slice ?_ | refine chk_convert ?_ | refine chk_store ?_ | refine chk_call (by kernel_rfl) ?_); simp only [eq_self, ev_tmp, upd_apply, rowsOfV, List.mem_cons, List.not_mem_nil, or_false, forall_eq, forall_eq_or_imp, obj_put, obj_new, nx_new, nx_put, Nat.reduceEqDiff, if_true, if_false, reduceIte, implies_true, and_self, and_true, true_or, or_true, e4, g0, g1, cut8 hk, cut8 hn, T3, T9, T22, T30, T32, T38, T57])))
      | (apply D_grd
         · (simp only [yieldedA, RY, Nat.reduceEqDiff, reduceIte, e4, g0, g1, cut8 hk, cut8 hn, T3, T9, T22, T30, T32, T38, T57] <;> rfl)))
    refine D_fn ?_ (xor49 (q + 4) G k n' hk hn 1#32 _ (s.take (s.length - 16)) s4 (by omega)) iso49 (fun v4 h4 hp _ r _ hr => hp.2.2 r hr) ?_
    · rfl
    intro v5 h5 ⟨own5, F5⟩
    repeat (first
      | refine D_nil ?_ | refine I_true ?_ | refine I_false ?_
      | ((first | apply D_op | apply D_op0)
         · ((repeat (first | simp (maxDischargeDepth := 9) only [RA, Nat.reduceEqDiff, Nat.reduceLT, Nat.reduceLeDiff, Nat.reduceAdd, Nat.reduceSub, Nat.reduceMul, Nat.reduceDiv, Nat.reduceMod, Nat.reducePow, Nat.reduceBEq, Nat.reduceGT, reduceIte, T3, T9, T22, T30, T32, T38, T57] | simp (disch := first | assumption | omega) only [RV])) <;> rfl)
         · (intro hF; first | exact chk_pure rfl | exact chk_alloc rfl | exact chk_read rfl | exact chk_iso iso49 | exact chk_call iso49 (fun _ _ _ => rfl) | exact chk_iso iso64 | exact chk_call iso64 (fun _ _ _ => rfl) | exact chk_iso iso85 | exact chk_call iso85 (fun _ _ _ => rfl) | exact chk_iso iso86 | exact chk_call iso86 (fun _ _ _ => rfl) | (exfalso; revert hF; decide) | ((first | refine chk_load ?_ | refine chk_slice ?_ | refine chk_convert ?_ | refine chk_store ?_ | refine chk_call (by kernel_rfl) ?_); simp only [eq_self, ev_tmp, upd_apply, rowsOfV, List.mem_cons, List.not_mem_nil, or_false, forall_eq, forall_eq_or_imp, obj_put, obj_new, nx_new, nx_put, Nat.reduceEqDiff, if_true, if_false, reduceIte, implies_true, and_self, and_true, true_or, or_true, T3, T9, T22, T30, T32, T38, T57])))
      | (apply D_grd
         · (simp only [yieldedA, RY, Nat.reduceEqDiff, reduceIte, T3, T9, T22, T30, T32, T38, T57] <;> rfl)))
    repeat (first
      | refine R_seq ?_ | refine R_region ?_ | refine R_nil ?_ | refine Q_seq ?_ | refine Q_norm ?_ | refine Q_seqr ?_ | refine Q_seqx ?_ | refine Q_bl ?_ | refine Q_blr ?_ | refine Q_blx ?_ | refine Q_blo rfl ?_ | refine R_block ?_ | refine R_skip ?_ | refine R_exit ?_ | refine R_ret ?_ | refine I_true ?_ | refine I_false ?_ | refine N_exit ?_ | refine N_ret ?_
      | ((first | apply R_op | apply R_op0)
         · ((repeat (first | simp (maxDischargeDepth := 9) only [RA, Nat.reduceEqDiff, Nat.reduceLT, Nat.reduceLeDiff, Nat.reduceAdd, Nat.reduceSub, Nat.reduceMul, Nat.reduceDiv, Nat.reduceMod, Nat.reducePow, Nat.reduceBEq, Nat.reduceGT, reduceIte, T3, T9, T22, T30, T32, T38, T57] | simp (disch := first | assumption | omega) only [RV])) <;> rfl))
      | (apply R_cond
         · (simp only [RE, Nat.reduceEqDiff, Nat.reduceLT, Nat.reduceLeDiff, Nat.reduceBEq, reduceIte, T3, T9, T22, T30, T32, T38, T57] <;> rfl))
      | (apply R_grd
         · (simp only [yieldedA, RY, Nat.reduceEqDiff, reduceIte, T3, T9, T22, T30, T32, T38, T57] <;> rfl)))
    refine ⟨.inr rfl, _, rfl, ?_, FH.trans ((FHG.trans (F5.le (by omega))).le (by omega))⟩
    rw [if_pos hc]
    refine ⟨v5, ?_, own5.le (by omega)⟩
    (try simp only [List.map_cons, List.map_nil, RH, Nat.reduceAdd, Nat.reduceEqDiff, reduceIte, ev_tmp, ev_const, lit_iv, lit_w8, lit_w32, lit_w64, envOf0, envOf1, envOf2, envOf3, envOf4, envOf5, packR, T3, T9, T22, T30, T32, T38, T57])
  · have hc2 : ¬ tg = s.drop (s.length - 16) := fun hh => hc hh.symm
    repeat (first
      | refine R_seq ?_ | refine R_region ?_ | refine R_nil ?_ | refine Q_seq ?_ | refine Q_norm ?_ | refine Q_seqr ?_ | refine Q_seqx ?_ | refine Q_bl ?_ | refine Q_blr ?_ | refine Q_blx ?_ | refine Q_blo rfl ?_ | refine R_block ?_ | refine R_skip ?_ | refine R_exit ?_ | refine R_ret ?_ | refine I_true ?_ | refine I_false ?_ | refine N_exit ?_ | refine N_ret ?_
      | ((first | apply R_op | apply R_op0)
         · ((repeat (first | simp (maxDischargeDepth := 9) only [RA, Nat.reduceEqDiff, Nat.reduceLT, Nat.reduceLeDiff, Nat.reduceAdd, Nat.reduceSub, Nat.reduceMul, Nat.reduceDiv, Nat.reduceMod, Nat.reducePow, Nat.reduceBEq, Nat.reduceGT, reduceIte, eq_false hc2, T3, T9, T22, T30, T32, T38, T57] | simp (disch := first | assumption | omega) only [RV, eq_false hc2])) <;> rfl))
      | (apply R_cond
         · (simp only [RE, Nat.reduceEqDiff, Nat.reduceLT, Nat.reduceLeDiff, Nat.reduceBEq, reduceIte, eq_false hc2, T3, T9, T22, T30, T32, T38, T57] <;> rfl))
      | (apply R_grd
         · (simp only [yieldedA, RY, Nat.reduceEqDiff, reduceIte, eq_false hc2, T3, T9, T22, T30, T32, T38, T57] <;> rfl)))
    refine ⟨.inr rfl, _, rfl, ?_, FH.trans (FHG.le (by omega))⟩
    rw [if_neg hc]
    (try simp only [List.map_cons, List.map_nil, RH, Nat.reduceAdd, Nat.reduceEqDiff, reduceIte, ev_tmp, ev_const, lit_iv, lit_w8, lit_w32, lit_w64, envOf0, envOf1, envOf2, envOf3, envOf4, envOf5, packR, T3, T9, T22, T30, T32, T38, T57])
end Go.Proofs.Ytfehhihllenjiaa
