/- Rules for memory. -/
import Derived.Test.YtfehhihllenjiaaX
set_option linter.all false
namespace Go.Proofs.Ytfehhihllenjiaa

def cellV (o : Option AObj) (i : Nat) : Option Value :=
  match o with
  | some (.row _ _ cs) => cs[i]?
  | _ => none
def cutV (o : Option AObj) (i n : Nat) : Option Value :=
  match o with
  | some (.row _ _ cs) => if i + n ≤ cs.length then some (.agg ((cs.drop i).take n).toArray) else none
  | _ => none
def put1 (h : Heap) (b i : Nat) (v : Value) (o : Option AObj) : Option Heap :=
  match o with
  | some (.row k es cs) => if k ≠ .ro ∧ i < cs.length then some (h.put b (some (.row k es (cs.set i v)))) else none
  | _ => none
def putV (h : Heap) (b i n : Nat) (vs : List Value) (o : Option AObj) : Option Heap :=
  match o with
  | some (.row k es cs) => if k ≠ .ro ∧ vs.length = n ∧ i + n ≤ cs.length ∧ vs.all (fun x => x.oneCell') = true then some (h.put b (some (.row k es (setAt cs i vs)))) else none
  | _ => none

section
variable {P : Program} {t : TypeId} {d : TypeDesc} {info : TypeInfo} {h : Heap} {b i o n k : Nat}
theorem cellV_row {k : Kind} {es : Nat} {cs : List Value} : cellV (some (.row k es cs)) i = cs[i]? := rfl
theorem cutV_row {k : Kind} {es : Nat} {cs : List Value} : cutV (some (.row k es cs)) i n = if i + n ≤ cs.length then some (.agg ((cs.drop i).take n).toArray) else none := rfl
theorem put1_rw {es : Nat} {cs : List Value} {v : Value} (hi : i < cs.length) : put1 h b i v (some (.row .rw es cs)) = some (h.put b (some (.row .rw es (cs.set i v)))) := if_pos ⟨by simp, hi⟩
theorem put1_gr {es : Nat} {cs : List Value} {v : Value} (hi : i < cs.length) : put1 h b i v (some (.row .grow es cs)) = some (h.put b (some (.row .grow es (cs.set i v)))) := if_pos ⟨by simp, hi⟩
theorem putV_rw {es : Nat} {cs vs : List Value} (h1 : vs.length = n) (h2 : i + n ≤ cs.length) (h3 : vs.all (fun x => x.oneCell') = true) : putV h b i n vs (some (.row .rw es cs)) = some (h.put b (some (.row .rw es (setAt cs i vs)))) := if_pos ⟨by simp, h1, h2, h3⟩
theorem ld_scalar (hd : P.underlying t = some d) (hi : P.info? t = some info) (hg : isAggD d = false) : evLoad P t (.pointer (some ⟨b, i, none⟩)) h = cellV (h.obj b) i := by
  simp only [evLoad, cellV, hd, hi]
  cases h.obj b with
  | none => rfl
  | some o => cases o <;> simp [hg]
theorem ld_agg (hd : P.underlying t = some d) (hi : P.info? t = some info) (hg : isAggD d = true) (hs : info.size = n) : evLoad P t (.pointer (some ⟨b, i, none⟩)) h = cutV (h.obj b) i n := by
  simp only [evLoad, cutV, hd, hi]
  cases h.obj b with
  | none => rfl
  | some o => cases o <;> simp [hg, hs]
theorem st_one {v : Value} (hi : P.info? t = some info) (hs : info.size = 1) (hc : v.cells = #[v]) (h1 : v.oneCell' = true) : evStore P t (.pointer (some ⟨b, i, none⟩)) v h = put1 h b i v (h.obj b) := by
  simp only [evStore, put1, hi]
  cases h.obj b with
  | none => rfl
  | some o =>
    cases o with
    | loop L => rfl
    | row k es cs =>
      simp only [hc, hs]
      simp [h1, Nat.succ_le_iff]
theorem st_agg {cs : Array Value} (hi : P.info? t = some info) (hs : info.size = n) : evStore P t (.pointer (some ⟨b, i, none⟩)) (.agg cs) h = putV h b i n cs.toList (h.obj b) := by
  simp only [evStore, putV, hi]
  cases h.obj b with
  | none => rfl
  | some o =>
    cases o with
    | loop L => rfl
    | row k es cs' => simp [Value.cells, hs]
theorem box_one {v : Value} (hc : v.cells = #[v]) (h1 : v.oneCell' = true) : evBox v h = some (.pointer (some ⟨h.nx, 0, none⟩), newRowH h .rw 1 [v]) := by
  unfold evBox; rw [hc]; simp [h1]
theorem box_agg {cs : Array Value} (h1 : cs.toList.all (fun x => x.oneCell') = true) : evBox (.agg cs) h = some (.pointer (some ⟨h.nx, 0, none⟩), newRowH h .rw 1 cs.toList) := by
  unfold evBox; exact if_pos h1
theorem al_eq {z : Value} (hi : P.info? t = some info) (hz : zeroC info = some z) : evAlloc P t h = some (.pointer (some ⟨h.nx, 0, none⟩), newRowH h .rw 1 z.cells.toList) := by
  unfold evAlloc; rw [hi]; simp [hz]
theorem obj_new {k : Kind} {es : Nat} {cs : List Value} : (newRowH h k es cs).obj b = if b = h.nx then some (.row k es cs) else h.obj b := rfl
theorem nx_new {k : Kind} {es : Nat} {cs : List Value} : (newRowH h k es cs).nx = h.nx + 1 := rfl
theorem obj_put {o : Option AObj} {b' : Nat} : (h.put b o).obj b' = if b' = b then o else h.obj b' := rfl
theorem nx_put {o : Option AObj} : (h.put b o).nx = h.nx := rfl
theorem ia_arr {len : Nat} {el : TypeId} (hd : P.underlying t = some (.array len el)) (hi : P.info? el = some info) (hs : info.size = k) (hn : n < len) :
    evIndexAddr P t (.pointer (some ⟨b, o, none⟩)) (iv n) = some (.pointer (some ⟨b, o + n * k, none⟩)) := by
  subst hs
  unfold evIndexAddr
  rw [hd]
  simp [evInt, iv, hi, hn]
theorem ia_sl {len c : Nat} {el : TypeId} (hd : P.underlying t = some (.slice el)) (hi : P.info? el = some info) (hs : info.size = k) (hn : n < len) :
    evIndexAddr P t (.slice (some ⟨b, o, none⟩) len c) (iv n) = some (.pointer (some ⟨b, o + n * k, none⟩)) := by
  subst hs
  unfold evIndexAddr
  rw [hd]
  simp [evInt, iv, hi, hn]
theorem ix_arr {len : Nat} {el : TypeId} {ed : TypeDesc} {cs : List Value} (hd : P.underlying t = some (.array len el)) (he : P.underlying el = some ed) (hg : isAggD ed = false) (hi : P.info? el = some info) (hs : info.size = 1) (hn : n < len) :
    evIndex P t (.agg ⟨cs⟩) (iv n) = cs[n]? := by
  unfold evIndex
  rw [hd]
  simp [evInt, iv, hi, hn, evPart, he, hg, hs]
theorem len_arr {len : Nat} {el : TypeId} {x : Value} (hd : P.underlying t = some (.array len el)) : evLenB P t x = some (iv len) := by
  unfold evLenB; rw [hd]; rfl
theorem len_ptr {len : Nat} {a el : TypeId} {x : Value} (hd : P.underlying t = some (.pointer a)) (ha : P.underlying a = some (.array len el)) : evLenB P t x = some (iv len) := by
  unfold evLenB; rw [hd]; simp [ha, iv]
theorem len_sl {el : TypeId} {a : Option Addr} {c : Nat} (hd : P.underlying t = some (.slice el)) : evLenB P t (.slice a n c) = some (iv n) := by
  unfold evLenB; rw [hd]; rfl
theorem len_str {s : ByteArray} (hd : P.underlying t = some .string) : evLenB P t (.string s) = some (iv s.size) := by
  unfold evLenB; rw [hd]; rfl
theorem ext_tup {l : List Value} {k : Nat} : evExtract (.tuple ⟨l⟩) k = l[k]? := by simp [evExtract]
end
theorem cells_w8 (x : BitVec 8) : (w8 x).cells = #[w8 x] := rfl
theorem cells_w32 (x : BitVec 32) : (w32 x).cells = #[w32 x] := rfl
theorem cells_w64 (x : BitVec 64) : (w64 x).cells = #[w64 x] := rfl
theorem cells_iv (n : Nat) : (iv n).cells = #[iv n] := rfl
theorem one_w8 (x : BitVec 8) : (w8 x).oneCell' = true := rfl
theorem one_w32 (x : BitVec 32) : (w32 x).oneCell' = true := rfl
theorem one_w64 (x : BitVec 64) : (w64 x).oneCell' = true := rfl
theorem one_iv (n : Nat) : (iv n).oneCell' = true := rfl
end Go.Proofs.Ytfehhihllenjiaa
