/- Rules for memory. -/
import Derived.Test.YtfehhihllenjiaaX
set_option linter.all false
namespace Go.Proofs.Ytfehhihllenjiaa

def cellV (o : Option AObj) (i : Nat) : Option Value :=
  match o with
  | some (.row _ _ cs) => cs[i]?
  | _ => none
def cutV (o : Option AObj) (i n : Nat) : Option Value :=
  match o with
  | some (.row _ _ cs) => if i + n ≤ cs.length then some (.agg ((cs.drop i).take n).toArray) else none
  | _ => none
def put1 (h : Heap) (b i : Nat) (v : Value) (o : Option AObj) : Option Heap :=
  match o with
  | some (.row k es cs) => if k ≠ .ro ∧ i < cs.length then some (h.put b (some (.row k es (cs.set i v)))) else none
  | _ => none
def putV (h : Heap) (b i n : Nat) (vs : List Value) (o : Option AObj) : Option Heap :=
  match o with
  | some (.row k es cs) => if k ≠ .ro ∧ vs.length = n ∧ i + n ≤ cs.length ∧ vs.all (fun x => x.oneCell') = true then some (h.put b (some (.row k es (setAt cs i vs)))) else none
  | _ => none

section
variable {P : Program} {t : TypeId} {d : TypeDesc} {info : TypeInfo} {h : Heap} {b i o n k : Nat}
theorem cellV_row {k : Kind} {es : Nat} {cs : List Value} : cellV (some (.row k es cs)) i = cs[i]? := rfl
theorem cutV_row {k : Kind} {es : Nat} {cs : List Value} : cutV (some (.row k es cs)) i n = if i + n ≤ cs.length then some (.agg ((cs.drop i).take n).toArray) else none := rfl
theorem put1_rw {es : Nat} {cs : List Value} {v : Value} (hi : i < cs.length) : put1 h b i v (some (.row .rw es cs)) = some (h.put b (some (.row .rw es (cs.set i v)))) := if_pos ⟨by simp, hi⟩
theorem put1_gr {es : Nat} {cs : List Value} {v : Value} (hi : i < cs.length) : put1 h b i v (some (.row .grow es cs)) = some (h.put b (some (.row .grow es (cs.set i v)))) := if_pos ⟨by simp, hi⟩
theorem putV_rw {es : Nat} {cs vs : List Value} (h1 : vs.length = n) (h2 : i + n ≤ cs.length) (h3 : vs.all (fun x => x.oneCell') = true) : putV h b i n vs (some (.row .rw es cs)) = some (h.put b (some (.row .rw es (setAt cs i vs)))) := if_pos ⟨by simp, h1, h2, h3⟩
theorem ld_scalar (hd : P.underlying t = some d) (hi : P.info? t = some info) (hg : isAggD d = false) : evLoad P t (.pointer (some ⟨b, i, none⟩)) h = cellV (h.obj b) i := by
  simp only [evLoad, cellV, hd, hi]
  cases h.obj b with
  | none => rfl
  | some o => cases o <;> simp [hg]
theorem ld_agg (hd : P.underlying t = some d) (hi : P.info? t = some info) (hg : isAggD d = true) (hs : info.size = n) : evLoad P t (.pointer (some ⟨b, i, none⟩)) h = cutV (h.obj b) i n := by
  simp only [evLoad, cutV, hd, hi]
  cases h.obj b with
  | none => rfl
  | some o => cases o <;> simp [hg, hs]
theorem st_one {v : Value} (hi : P.info? t = some info) (hs : info.size = 1) (hc : v.cells = #[v]) (h1 : v.oneCell' = true) : evStore P t (.pointer (some ⟨b, i, none⟩)) v h = put1 h b i v (h.obj b) := by
  simp only [evStore, put1, hi]
  cases h.obj b with
  | none => rfl
  | some o =>
    cases o with
    | loop L => rfl
    | row k es cs =>
      simp only [hc, hs]
      simp [h1, Nat.succ_le_iff]
theorem st_agg {cs : Array Value} (hi : P.info? t = some info) (hs : info.size = n) : evStore P t (.pointer (some ⟨b, i, none⟩)) (.agg cs) h = putV h b i n cs.toList (h.obj b) := by
  simp only [evStore, putV, hi]
  cases h.obj b with
  | none => rfl
  | some o =>
    cases o with
    | loop L => rfl
    | row k es cs' => simp [Value.cells, hs]
theorem box_one {v : Value} (hc : v.cells = #[v]) (h1 : v.oneCell' = true) : evBox v h = some (.pointer (some ⟨h.nx, 0, none⟩), newRowH h .rw 1 [v]) := by
  unfold evBox; rw [hc]; simp [h1]
theorem box_agg {cs : Array Value} (h1 : cs.toList.all (fun x => x.oneCell') = true) : evBox (.agg cs) h = some (.pointer (some ⟨h.nx, 0, none⟩), newRowH h .rw 1 cs.toList) := by
  unfold evBox; exact if_pos h1
theorem al_eq {z : Value} (hi : P.info? t = some info) (hz : zeroC info = some z) : evAlloc P t h = some (.pointer (some ⟨h.nx, 0, none⟩), newRowH h .rw 1 z.cells.toList) := by
  unfold evAlloc; rw [hi]; simp [hz]
theorem obj_new {k : Kind} {es : Nat} {cs : List Value} : (newRowH h k es cs).obj b = if b = h.nx then some (.row k es cs) else h.obj b := rfl
theorem nx_new {k : Kind} {es : Nat} {cs : List Value} : (newRowH h k es cs).nx = h.nx + 1 := rfl
theorem obj_put {o : Option AObj} {b' : Nat} : (h.put b o).obj b' = if b' = b then o else h.obj b' := rfl
theorem nx_put {o : Option AObj} : (h.put b o).nx = h.nx := rfl
theorem ia_arr {len : Nat} {el : TypeId} (hd : P.underlying t = some (.array len el)) (hi : P.info? el = some info) (hs : info.size = k) (hn : n < len) :
    evIndexAddr P t (.pointer (some ⟨b, o, none⟩)) (iv n) = some (.pointer (some ⟨b, o + n * k, none⟩)) := by
  subst hs
  unfold evIndexAddr
  rw [hd]
  simp [evInt, iv, hi, hn]
theorem ia_sl {len c : Nat} {el : TypeId} (hd : P.underlying t = some (.slice el)) (hi : P.info? el = some info) (hs : info.size = k) (hn : n < len) :
    evIndexAddr P t (.slice (some ⟨b, o, none⟩) len c) (iv n) = some (.pointer (some ⟨b, o + n * k, none⟩)) := by
  subst hs
  unfold evIndexAddr
  rw [hd]
  simp [evInt, iv, hi, hn]
theorem ix_arr {len : Nat} {el : TypeId} {ed : TypeDesc} {cs : List Value} (hd : P.underlying t = some (.array len el)) (he : P.underlying el = some ed) (hg : isAggD ed = false) (hi : P.info? el = some info) (hs : info.size = 1) (hn : n < len) :
    evIndex P t (.agg ⟨cs⟩) (iv n) = cs[n]? := by
  unfold evIndex
  rw [hd]
  simp [evInt, iv, hi, hn, evPart, he, hg, hs]
theorem len_arr {len : Nat} {el : TypeId} {x : Value} (hd : P.underlying t = some (.array len el)) : evLenB P t x = some (iv len) := by
  unfold evLenB; rw [hd]; rfl
theorem len_ptr {len : Nat} {a el : TypeId} {x : Value} (hd : P.underlying t = some (.pointer a)) (ha : P.underlying a = some (.array len el)) : evLenB P t x = some (iv len) := by
  unfold evLenB; rw [hd]; simp [ha, iv]
theorem len_sl {el : TypeId} {a : Option Addr} {c : Nat} (hd : P.underlying t = some (.slice el)) : evLenB P t (.slice a n c) = some (iv n) := by
  unfold evLenB; rw [hd]; rfl
theorem len_str {s : ByteArray} (hd : P.underlying t = some .string) : evLenB P t (.string s) = some (iv s.size) := by
  unfold evLenB; rw [hd]; rfl
theorem ext_tup {l : List Value} {k : Nat} : evExtract (.tuple ⟨l⟩) k = l[k]? := by simp [evExtract]
end
theorem cells_w8 (x : BitVec 8) : (w8 x).cells = #[w8 x] := rfl
theorem cells_w32 (x : BitVec 32) : (w32 x).cells = #[w32 x] := rfl
theorem cells_w64 (x : BitVec 64) : (w64 x).cells = #[w64 x] := rfl
theorem cells_iv (n : Nat) : (iv n).cells = #[iv n] := rfl
theorem one_w8 (x : BitVec 8) : (w8 x).oneCell' = true := rfl
theorem one_w32 (x : BitVec 32) : (w32 x).oneCell' = true := rfl
theorem one_w64 (x : BitVec 64) : (w64 x).oneCell' = true := rfl
theorem one_iv (n : Nat) : (iv n).oneCell' = true := rfl
theorem nil_ptr (a : Addr) : evNil (.pointer (some a)) = some (.pointer (some a)) := rfl
theorem nil_fun (f : FuncId) (a b : Array Value) : evNil (.func (.func f) a b) = some (.func (.func f) a b) := rfl
theorem nil_yield (f : Nat) (a b : Array Value) : evNil (.func (.yield f) a b) = some (.func (.yield f) a b) := rfl

/-! rows of words -/
section
variable {α : Type} {f : α → Value} {xs ys : List α} {k : Kind} {es b i n : Nat} {h : Heap} {x d : α}
theorem row_get (d : α) (hi : i < xs.length) : cellV (some (.row k es (xs.map f))) i = some (f (xs.getD i d)) := by
  rw [cellV_row, List.getElem?_map, List.getElem?_eq_getElem hi, Option.map_some, List.getD_eq_getElem?_getD, List.getElem?_eq_getElem hi, Option.getD_some]
theorem row_put (hi : i < xs.length) : put1 h b i (f x) (some (.row .rw es (xs.map f))) = some (h.put b (some (.row .rw es ((xs.set i x).map f)))) := by
  rw [put1_rw (by simpa using hi), List.map_set]
theorem row_putg (hi : i < xs.length) : put1 h b i (f x) (some (.row .grow es (xs.map f))) = some (h.put b (some (.row .grow es ((xs.set i x).map f)))) := by
  rw [put1_gr (by simpa using hi), List.map_set]
theorem row_cut (hn : xs.length = n) : cutV (some (.row k es (xs.map f))) 0 n = some (.agg ⟨xs.map f⟩) := by
  subst hn
  rw [cutV_row, if_pos (by simp)]
  have e : ((xs.map f).drop 0).take xs.length = xs.map f := by rw [List.drop_zero, List.take_of_length_le (by simp)]
  rw [e]
theorem setAt_full : ∀ (vs cs pre : List Value), vs.length = cs.length → setAt (pre ++ cs) pre.length vs = pre ++ vs
  | [], cs, pre, h => by
    have : cs = [] := List.length_eq_zero_iff.1 h.symm
    subst this; rfl
  | v :: vs, [], pre, h => by simp at h
  | v :: vs, c :: cs, pre, h => by
    have e := setAt_full vs cs (pre ++ [v]) (by simpa using h)
    simp only [setAt]
    have e2 : (pre ++ c :: cs).set pre.length v = pre ++ [v] ++ cs := by simp
    rw [e2]
    simpa using e
theorem row_puts (hf : ∀ x, (f x).oneCell' = true) (hy : ys.length = n) (hx : xs.length = n) : putV h b 0 n (ys.map f) (some (.row .rw es (xs.map f))) = some (h.put b (some (.row .rw es (ys.map f)))) := by
  rw [putV_rw (by simpa using hy) (by simp [hx]) (by simp [hf])]
  have := setAt_full (ys.map f) (xs.map f) [] (by simp [hx, hy])
  simp only [List.nil_append, List.length_nil] at this
  rw [this]
theorem row_box (hf : ∀ x, (f x).oneCell' = true) : evBox (.agg ⟨xs.map f⟩) h = some (.pointer (some ⟨h.nx, 0, none⟩), newRowH h .rw 1 (xs.map f)) := box_agg (by simp [hf])
theorem row_rep : List.replicate n (f x) = (List.replicate n x).map f := by simp
end
def b8 (xs : List (BitVec 8)) : List Value := xs.map w8
def b32 (xs : List (BitVec 32)) : List Value := xs.map w32
section
variable {k : Kind} {es b i n : Nat} {h : Heap}
theorem get8 {xs : List (BitVec 8)} (hi : i < xs.length) : cellV (some (.row k es (b8 xs))) i = some (w8 (xs.getD i 0#8)) := row_get _ hi
theorem get32 {xs : List (BitVec 32)} (hi : i < xs.length) : cellV (some (.row k es (b32 xs))) i = some (w32 (xs.getD i 0#32)) := row_get _ hi
theorem put8 {xs : List (BitVec 8)} {x : BitVec 8} (hi : i < xs.length) : put1 h b i (w8 x) (some (.row .rw es (b8 xs))) = some (h.put b (some (.row .rw es (b8 (xs.set i x))))) := row_put hi
theorem put32 {xs : List (BitVec 32)} {x : BitVec 32} (hi : i < xs.length) : put1 h b i (w32 x) (some (.row .rw es (b32 xs))) = some (h.put b (some (.row .rw es (b32 (xs.set i x))))) := row_put hi
theorem put8g {xs : List (BitVec 8)} {x : BitVec 8} (hi : i < xs.length) : put1 h b i (w8 x) (some (.row .grow es (b8 xs))) = some (h.put b (some (.row .grow es (b8 (xs.set i x))))) := row_putg hi
theorem cut8 {xs : List (BitVec 8)} (hn : xs.length = n) : cutV (some (.row k es (b8 xs))) 0 n = some (.agg ⟨b8 xs⟩) := row_cut hn
theorem cut32 {xs : List (BitVec 32)} (hn : xs.length = n) : cutV (some (.row k es (b32 xs))) 0 n = some (.agg ⟨b32 xs⟩) := row_cut hn
theorem puts8 {xs ys : List (BitVec 8)} (hy : ys.length = n) (hx : xs.length = n) : putV h b 0 n (b8 ys) (some (.row .rw es (b8 xs))) = some (h.put b (some (.row .rw es (b8 ys)))) := row_puts (fun _ => rfl) hy hx
theorem puts32 {xs ys : List (BitVec 32)} (hy : ys.length = n) (hx : xs.length = n) : putV h b 0 n (b32 ys) (some (.row .rw es (b32 xs))) = some (h.put b (some (.row .rw es (b32 ys)))) := row_puts (fun _ => rfl) hy hx
theorem box8 {xs : List (BitVec 8)} : evBox (.agg ⟨b8 xs⟩) h = some (.pointer (some ⟨h.nx, 0, none⟩), newRowH h .rw 1 (b8 xs)) := row_box fun _ => rfl
theorem box32 {xs : List (BitVec 32)} : evBox (.agg ⟨b32 xs⟩) h = some (.pointer (some ⟨h.nx, 0, none⟩), newRowH h .rw 1 (b32 xs)) := row_box fun _ => rfl
theorem rep8 {x : BitVec 8} : List.replicate n (w8 x) = b8 (List.replicate n x) := row_rep
theorem rep32 {x : BitVec 32} : List.replicate n (w32 x) = b32 (List.replicate n x) := row_rep
theorem idx8 {xs : List (BitVec 8)} (hi : i < xs.length) : (b8 xs)[i]? = some (w8 (xs.getD i 0#8)) := row_get (k := .ro) (es := 0) (f := w8) _ hi
theorem idx32 {xs : List (BitVec 32)} (hi : i < xs.length) : (b32 xs)[i]? = some (w32 (xs.getD i 0#32)) := row_get (k := .ro) (es := 0) (f := w32) _ hi
theorem closed_b8 (d : Nat) (xs : List (BitVec 8)) : (b8 xs).all (closedV (d + 1)) = true := by simp [b8, closedV, w8]
theorem closed_b32 (d : Nat) (xs : List (BitVec 32)) : (b32 xs).all (closedV (d + 1)) = true := by simp [b32, closedV, w32]
theorem closed_agg8 (d : Nat) (xs : List (BitVec 8)) : closedV (d + 2) (.agg ⟨b8 xs⟩) = true := closed_b8 d xs
theorem closed_agg32 (d : Nat) (xs : List (BitVec 32)) : closedV (d + 2) (.agg ⟨b32 xs⟩) = true := closed_b32 d xs
theorem closed_w8 (d : Nat) (x : BitVec 8) : closedV (d + 1) (w8 x) = true := rfl
theorem closed_w32 (d : Nat) (x : BitVec 32) : closedV (d + 1) (w32 x) = true := rfl
theorem closed_w64 (d : Nat) (x : BitVec 64) : closedV (d + 1) (w64 x) = true := rfl
theorem closed_iv (d : Nat) (x : Nat) : closedV (d + 1) (iv x) = true := rfl
end

/-! slicing, strings -/
theorem bnd_iv {n y : Nat} (h : n ≤ y) : bnd (iv n) y = some n := by simp [bnd, iv, evInt, h]
section
variable {P : Program} {t el : TypeId} {info : TypeInfo} {h : Heap} {b i n k lo hh c : Nat}
theorem sla (hd : P.underlying t = some (.array n el)) (hi : P.info? el = some info) (hs : info.size = k) (h1 : lo ≤ hh) (h2 : hh ≤ n) (h3 : lo < n) :
    evSlice P t (.pointer (some ⟨b, i, none⟩)) (some (iv lo)) (some (iv hh)) none h = some (.slice (some ⟨b, i + lo * k, none⟩) (hh - lo) (n - lo)) := by
  subst hs
  have e : evBounds n n (some (iv lo)) (some (iv hh)) none = some (lo, hh, n) := by
    have e0 : evBounds0 n n (some (iv lo)) (some (iv hh)) none = some (lo, hh, n) := by unfold evBounds0; first | (simp only [bnd_iv h2, bnd_iv h1, h1, h2]; done) | rfl | (simp only [bnd_iv h2, bnd_iv h1, h1, h2]; rfl)
    unfold evBounds
    rw [e0]
    simp [bnd_iv h2, bnd_iv h1, h1, h2]
  unfold evSlice
  rw [hd]
  simp [hi, evSliceArr, e, show ¬ n = lo by omega]
theorem slh (hd : P.underlying t = some (.array n el)) (hi : P.info? el = some info) (hs : info.size = k) (h2 : hh ≤ n) (h3 : 0 < n) :
    evSlice P t (.pointer (some ⟨b, i, none⟩)) none (some (iv hh)) none h = some (.slice (some ⟨b, i, none⟩) hh n) := by
  subst hs
  have e : evBounds n n none (some (iv hh)) none = some (0, hh, n) := by
    have e0 : evBounds0 n n none (some (iv hh)) none = some (0, hh, n) := by unfold evBounds0; first | (simp only [bnd_iv h2, h2]; done) | rfl | (simp only [bnd_iv h2, h2]; rfl)
    unfold evBounds
    rw [e0]
    simp [bnd_iv h2, h2]
  unfold evSlice
  rw [hd]
  simp [hi, evSliceArr, e, show ¬ n = 0 by omega]
theorem sll (hd : P.underlying t = some (.array n el)) (hi : P.info? el = some info) (hs : info.size = k) (h1 : lo < n) :
    evSlice P t (.pointer (some ⟨b, i, none⟩)) (some (iv lo)) none none h = some (.slice (some ⟨b, i + lo * k, none⟩) (n - lo) (n - lo)) := by
  subst hs
  have e : evBounds n n (some (iv lo)) none none = some (lo, n, n) := by
    have e0 : evBounds0 n n (some (iv lo)) none none = some (lo, n, n) := by unfold evBounds0; first | (simp only [bnd_iv (Nat.le_of_lt h1), Nat.le_of_lt h1]; done) | rfl | (simp only [bnd_iv (Nat.le_of_lt h1), Nat.le_of_lt h1]; rfl)
    unfold evBounds
    rw [e0]
    simp [bnd_iv (Nat.le_of_lt h1), Nat.le_of_lt h1]
  unfold evSlice
  rw [hd]
  simp [hi, evSliceArr, e, show ¬ n = lo by omega]
theorem sln (hd : P.underlying t = some (.array n el)) (hi : P.info? el = some info) (h1 : 0 < n) :
    evSlice P t (.pointer (some ⟨b, i, none⟩)) none none none h = some (.slice (some ⟨b, i, none⟩) n n) := by
  have e : evBounds n n none none none = some (0, n, n) := by
    have e0 : evBounds0 n n none none none = some (0, n, n) := by unfold evBounds0; rfl
    unfold evBounds
    rw [e0]
    simp []
  unfold evSlice
  rw [hd]
  simp [hi, evSliceArr, e, show ¬ n = 0 by omega]
theorem slstr {s : ByteArray} (hd : P.underlying t = some .string) (h1 : lo ≤ hh) (h2 : hh ≤ s.size) :
    evSlice P t (.string s) (some (iv lo)) (some (iv hh)) none h = some (.string (s.extract lo hh)) := by
  have e : evBounds s.size s.size (some (iv lo)) (some (iv hh)) none = some (lo, hh, s.size) := by
    have e0 : evBounds0 s.size s.size (some (iv lo)) (some (iv hh)) none = some (lo, hh, s.size) := by unfold evBounds0; first | (simp only [bnd_iv h2, bnd_iv h1, h1, h2]; done) | rfl | (simp only [bnd_iv h2, bnd_iv h1, h1, h2]; rfl)
    unfold evBounds
    rw [e0]
    simp [bnd_iv h2, bnd_iv h1, h1, h2]
  unfold evSlice
  rw [hd]
  simp [e]
end
/-- A string's bytes. -/
def sbytes (s : ByteArray) : List (BitVec 8) := s.data.toList.map UInt8.toBitVec
theorem sbytes_length (s : ByteArray) : (sbytes s).length = s.size := by
  unfold sbytes
  rw [List.length_map, Array.length_toList]
  rfl
theorem sbytes_cells (s : ByteArray) : (s.data.toList.map fun b => Value.int .u8 b.toNat) = b8 (sbytes s) := by
  unfold b8 sbytes
  rw [List.map_map]
  rfl
/-- The string of bytes. -/
def bstr (l : List (BitVec 8)) : ByteArray := ⟨(l.map UInt8.ofBitVec).toArray⟩
theorem sbytes_bstr (l : List (BitVec 8)) : sbytes (bstr l) = l := by
  show (l.map UInt8.ofBitVec).map UInt8.toBitVec = l
  rw [List.map_map]
  exact List.map_id'' (fun _ => rfl) l
theorem bstr_inj {a b : List (BitVec 8)} (h : bstr a = bstr b) : a = b := by rw [← sbytes_bstr a, h, sbytes_bstr]
theorem bytesOf_b8 : ∀ l : List (BitVec 8), bytesOf (b8 l) = some (l.map UInt8.ofBitVec)
  | [] => rfl
  | x :: l => by
    have ih := bytesOf_b8 l
    show (bytesOf (b8 l)).map _ = _
    rw [ih]
    simp only [Option.map_some, List.map_cons, Option.some.injEq, List.cons.injEq, and_true]
    apply UInt8.toBitVec_inj.1
    simp
section
variable {P : Program} {src dst e : TypeId} {sd : TypeDesc} {h : Heap}
theorem cv_str {s : ByteArray} (hs : P.underlying src = some sd) (hd : P.underlying dst = some (.slice e)) (he : P.underlying e = some (.int .u8)) (h0 : 0 < s.size) (h1 : s.size ≤ 1099511627776) :
    evConvert P src dst (.string s) h = some (.slice (some ⟨h.nx, 0, none⟩) s.size s.size, newRowH h .grow 1 (b8 (sbytes s))) := by
  have e1 : s.size ≤ 2 ^ 40 := h1
  unfold evConvert
  rw [hs, hd]
  simp only [he, show ¬ s.size = 0 by omega, if_false, e1, if_true, sbytes_cells]
end
theorem ba_size (l : List UInt8) : ByteArray.size ⟨l.toArray⟩ = l.length := rfl
theorem ba_extract (l : List UInt8) (lo hh : Nat) : ByteArray.extract ⟨l.toArray⟩ lo hh = ⟨((l.drop lo).take (hh - lo)).toArray⟩ := by
  have h1 : (ByteArray.extract ⟨l.toArray⟩ lo hh).data = l.toArray.extract lo hh := ByteArray.data_extract
  have h2 : l.toArray.extract lo hh = ((l.drop lo).take (hh - lo)).toArray := by
    apply Array.toList_inj.1
    simp [Array.toList_extract]
  cases h3 : ByteArray.extract ⟨l.toArray⟩ lo hh with
  | mk d =>
    rw [h3] at h1
    simp only at h1
    rw [h1, h2]
theorem sb_list (l : List UInt8) : sbytes ⟨l.toArray⟩ = l.map UInt8.toBitVec := rfl
end Go.Proofs.Ytfehhihllenjiaa
