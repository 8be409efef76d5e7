/- Rules for memory. -/
import Derived.Test.YtfehhihllenjiaaC3
import Derived.Laws.Strings
set_option linter.all false
namespace Go.Proofs.Ytfehhihllenjiaa

def cellV (o : Option AObj) (i : Nat) : Option Value :=
  match o with
  | some (.row _ _ cs) => cs[i]?
  | _ => none
def cutV (o : Option AObj) (i n : Nat) : Option Value :=
  match o with
  | some (.row _ _ cs) => if i + n ≤ cs.length then some (.agg ((cs.drop i).take n).toArray) else none
  | _ => none
def put1 (h : Heap) (b i : Nat) (v : Value) (o : Option AObj) : Option Heap :=
  match o with
  | some (.row k es cs) => if k ≠ .ro ∧ i < cs.length then some (h.put b (some (.row k es (cs.set i v)))) else none
  | _ => none
def putV (h : Heap) (b i n : Nat) (vs : List Value) (o : Option AObj) : Option Heap :=
  match o with
  | some (.row k es cs) => if k ≠ .ro ∧ vs.length = n ∧ i + n ≤ cs.length ∧ vs.all (fun x => x.oneCell') = true then some (h.put b (some (.row k es (setAt cs i vs)))) else none
  | _ => none

section
variable {P : Program} {t : TypeId} {d : TypeDesc} {info : TypeInfo} {h : Heap} {b i o n k : Nat}
theorem cellV_row {k : Kind} {es : Nat} {cs : List Value} : cellV (some (.row k es cs)) i = cs[i]? := rfl
theorem cutV_row {k : Kind} {es : Nat} {cs : List Value} : cutV (some (.row k es cs)) i n = if i + n ≤ cs.length then some (.agg ((cs.drop i).take n).toArray) else none := rfl
theorem put1_rw {es : Nat} {cs : List Value} {v : Value} (hi : i < cs.length) : put1 h b i v (some (.row .rw es cs)) = some (h.put b (some (.row .rw es (cs.set i v)))) := if_pos ⟨by simp, hi⟩
theorem put1_gr {es : Nat} {cs : List Value} {v : Value} (hi : i < cs.length) : put1 h b i v (some (.row .grow es cs)) = some (h.put b (some (.row .grow es (cs.set i v)))) := if_pos ⟨by simp, hi⟩
theorem putV_rw {es : Nat} {cs vs : List Value} (h1 : vs.length = n) (h2 : i + n ≤ cs.length) (h3 : vs.all (fun x => x.oneCell') = true) : putV h b i n vs (some (.row .rw es cs)) = some (h.put b (some (.row .rw es (setAt cs i vs)))) := if_pos ⟨by simp, h1, h2, h3⟩
theorem ld_scalar (hd : P.underlying t = some d) (hi : P.info? t = some info) (hg : isAggD d = false) : evLoad P t (.pointer (some ⟨b, i, none⟩)) h = cellV (h.obj b) i := by
  simp only [evLoad, cellV, hd, hi]
  cases h.obj b with
  | none => rfl
  | some o => cases o <;> simp [hg]
theorem ld_agg (hd : P.underlying t = some d) (hi : P.info? t = some info) (hg : isAggD d = true) (hs : info.size = n) : evLoad P t (.pointer (some ⟨b, i, none⟩)) h = cutV (h.obj b) i n := by
  simp only [evLoad, cutV, hd, hi]
  cases h.obj b with
  | none => rfl
  | some o => cases o <;> simp [hg, hs]
theorem st_one {v : Value} (hi : P.info? t = some info) (hs : info.size = 1) (hc : v.cells = #[v]) (h1 : v.oneCell' = true) : evStore P t (.pointer (some ⟨b, i, none⟩)) v h = put1 h b i v (h.obj b) := by
  simp only [evStore, put1, hi]
  cases h.obj b with
  | none => rfl
  | some o =>
    cases o with
    | loop L => rfl
    | row k es cs =>
      simp only [hc, hs]
      simp [h1, Nat.succ_le_iff]
theorem st_agg {cs : Array Value} (hi : P.info? t = some info) (hs : info.size = n) : evStore P t (.pointer (some ⟨b, i, none⟩)) (.agg cs) h = putV h b i n cs.toList (h.obj b) := by
  simp only [evStore, putV, hi]
  cases h.obj b with
  | none => rfl
  | some o =>
    cases o with
    | loop L => rfl
    | row k es cs' => simp [Value.cells, hs]
theorem box_one {v : Value} (hc : v.cells = #[v]) (h1 : v.oneCell' = true) : evBox v h = some (.pointer (some ⟨h.nx, 0, none⟩), newRowH h .rw 1 [v]) := by
  unfold evBox; rw [hc]; simp [h1]
theorem box_agg {cs : Array Value} (h1 : cs.toList.all (fun x => x.oneCell') = true) : evBox (.agg cs) h = some (.pointer (some ⟨h.nx, 0, none⟩), newRowH h .rw 1 cs.toList) := by
  unfold evBox; exact if_pos h1
theorem al_eq {z : Value} (hi : P.info? t = some info) (hz : zeroC info = some z) : evAlloc P t h = some (.pointer (some ⟨h.nx, 0, none⟩), newRowH h .rw 1 z.cells.toList) := by
  unfold evAlloc; rw [hi]; simp [hz]
theorem obj_new {k : Kind} {es : Nat} {cs : List Value} : (newRowH h k es cs).obj b = if b = h.nx then some (.row k es cs) else h.obj b := rfl
theorem nx_new {k : Kind} {es : Nat} {cs : List Value} : (newRowH h k es cs).nx = h.nx + 1 := rfl
theorem obj_put {o : Option AObj} {b' : Nat} : (h.put b o).obj b' = if b' = b then o else h.obj b' := rfl
theorem nx_put {o : Option AObj} : (h.put b o).nx = h.nx := rfl
theorem ia_arr {len : Nat} {el : TypeId} (hd : P.underlying t = some (.array len el)) (hi : P.info? el = some info) (hs : info.size = k) (hn : n < len) :
    evIndexAddr P t (.pointer (some ⟨b, o, none⟩)) (iv n) = some (.pointer (some ⟨b, o + n * k, none⟩)) := by
  subst hs
  unfold evIndexAddr
  rw [hd]
  simp [evInt, iv, hi, hn]
theorem ia_sl {len c : Nat} {el : TypeId} (hd : P.underlying t = some (.slice el)) (hi : P.info? el = some info) (hs : info.size = k) (hn : n < len) :
    evIndexAddr P t (.slice (some ⟨b, o, none⟩) len c) (iv n) = some (.pointer (some ⟨b, o + n * k, none⟩)) := by
  subst hs
  unfold evIndexAddr
  rw [hd]
  simp [evInt, iv, hi, hn]
theorem ix_arr {len : Nat} {el : TypeId} {ed : TypeDesc} {cs : List Value} (hd : P.underlying t = some (.array len el)) (he : P.underlying el = some ed) (hg : isAggD ed = false) (hi : P.info? el = some info) (hs : info.size = 1) (hn : n < len) :
    evIndex P t (.agg ⟨cs⟩) (iv n) = cs[n]? := by
  unfold evIndex
  rw [hd]
  simp [evInt, iv, hi, hn, evPart, he, hg, hs]
theorem len_arr {len : Nat} {el : TypeId} {x : Value} (hd : P.underlying t = some (.array len el)) : evLenB P t x = some (iv len) := by
  unfold evLenB; rw [hd]; rfl
theorem len_sl {el : TypeId} {a : Option Addr} {c : Nat} (hd : P.underlying t = some (.slice el)) : evLenB P t (.slice a n c) = some (iv n) := by
  unfold evLenB; rw [hd]; rfl
theorem len_str {s : ByteArray} (hd : P.underlying t = some .string) : evLenB P t (.string s) = some (iv s.size) := by
  unfold evLenB; rw [hd]; rfl
theorem ext_tup {l : List Value} {k : Nat} : evExtract (.tuple ⟨l⟩) k = l[k]? := by simp [evExtract]
end
theorem cells_w8 (x : BitVec 8) : (w8 x).cells = #[w8 x] := rfl
theorem cells_w32 (x : BitVec 32) : (w32 x).cells = #[w32 x] := rfl
theorem cells_w64 (x : BitVec 64) : (w64 x).cells = #[w64 x] := rfl
theorem cells_iv (n : Nat) : (iv n).cells = #[iv n] := rfl
theorem one_w8 (x : BitVec 8) : (w8 x).oneCell' = true := rfl
theorem one_w32 (x : BitVec 32) : (w32 x).oneCell' = true := rfl
theorem one_w64 (x : BitVec 64) : (w64 x).oneCell' = true := rfl
theorem one_iv (n : Nat) : (iv n).oneCell' = true := rfl
theorem nil_ptr (a : Addr) : evNil (.pointer (some a)) = some (.pointer (some a)) := rfl
theorem nil_fun (f : FuncId) (a b : Array Value) : evNil (.func (.func f) a b) = some (.func (.func f) a b) := rfl
theorem nil_yield (f : Nat) (a b : Array Value) : evNil (.func (.yield f) a b) = some (.func (.yield f) a b) := rfl

/-! rows of words -/
section
variable {α : Type} {f : α → Value} {xs ys : List α} {k : Kind} {es b i n : Nat} {h : Heap} {x d : α}
theorem row_get (d : α) (hi : i < xs.length) : cellV (some (.row k es (xs.map f))) i = some (f (xs.getD i d)) := by
  rw [cellV_row, List.getElem?_map, List.getElem?_eq_getElem hi, Option.map_some, List.getD_eq_getElem?_getD, List.getElem?_eq_getElem hi, Option.getD_some]
theorem row_put (hi : i < xs.length) : put1 h b i (f x) (some (.row .rw es (xs.map f))) = some (h.put b (some (.row .rw es ((xs.set i x).map f)))) := by
  rw [put1_rw (by simpa using hi), List.map_set]
theorem row_putg (hi : i < xs.length) : put1 h b i (f x) (some (.row .grow es (xs.map f))) = some (h.put b (some (.row .grow es ((xs.set i x).map f)))) := by
  rw [put1_gr (by simpa using hi), List.map_set]
theorem row_cut (hn : xs.length = n) : cutV (some (.row k es (xs.map f))) 0 n = some (.agg ⟨xs.map f⟩) := by
  subst hn
  rw [cutV_row, if_pos (by simp)]
  have e : ((xs.map f).drop 0).take xs.length = xs.map f := by rw [List.drop_zero, List.take_of_length_le (by simp)]
  rw [e]
theorem setAt_full : ∀ (vs cs pre : List Value), vs.length = cs.length → setAt (pre ++ cs) pre.length vs = pre ++ vs
  | [], cs, pre, h => by
    have : cs = [] := List.length_eq_zero_iff.1 h.symm
    subst this; rfl
  | v :: vs, [], pre, h => by simp at h
  | v :: vs, c :: cs, pre, h => by
    have e := setAt_full vs cs (pre ++ [v]) (by simpa using h)
    simp only [setAt]
    have e2 : (pre ++ c :: cs).set pre.length v = pre ++ [v] ++ cs := by simp
    rw [e2]
    simpa using e
theorem row_puts (hf : ∀ x, (f x).oneCell' = true) (hy : ys.length = n) (hx : xs.length = n) : putV h b 0 n (ys.map f) (some (.row .rw es (xs.map f))) = some (h.put b (some (.row .rw es (ys.map f)))) := by
  rw [putV_rw (by simpa using hy) (by simp [hx]) (by simp [hf])]
  have := setAt_full (ys.map f) (xs.map f) [] (by simp [hx, hy])
  simp only [List.nil_append, List.length_nil] at this
  rw [this]
theorem row_box (hf : ∀ x, (f x).oneCell' = true) : evBox (.agg ⟨xs.map f⟩) h = some (.pointer (some ⟨h.nx, 0, none⟩), newRowH h .rw 1 (xs.map f)) := box_agg (by simp [hf])
theorem row_rep : List.replicate n (f x) = (List.replicate n x).map f := by simp
end
def b8 (xs : List (BitVec 8)) : List Value := xs.map w8
def b32 (xs : List (BitVec 32)) : List Value := xs.map w32
section
variable {k : Kind} {es b i n : Nat} {h : Heap}
theorem get8 {xs : List (BitVec 8)} (hi : i < xs.length) : cellV (some (.row k es (b8 xs))) i = some (w8 (xs.getD i 0#8)) := row_get _ hi
theorem get32 {xs : List (BitVec 32)} (hi : i < xs.length) : cellV (some (.row k es (b32 xs))) i = some (w32 (xs.getD i 0#32)) := row_get _ hi
theorem put8 {xs : List (BitVec 8)} {x : BitVec 8} (hi : i < xs.length) : put1 h b i (w8 x) (some (.row .rw es (b8 xs))) = some (h.put b (some (.row .rw es (b8 (xs.set i x))))) := row_put hi
theorem put32 {xs : List (BitVec 32)} {x : BitVec 32} (hi : i < xs.length) : put1 h b i (w32 x) (some (.row .rw es (b32 xs))) = some (h.put b (some (.row .rw es (b32 (xs.set i x))))) := row_put hi
theorem put8g {xs : List (BitVec 8)} {x : BitVec 8} (hi : i < xs.length) : put1 h b i (w8 x) (some (.row .grow es (b8 xs))) = some (h.put b (some (.row .grow es (b8 (xs.set i x))))) := row_putg hi
theorem cut8 {xs : List (BitVec 8)} (hn : xs.length = n) : cutV (some (.row k es (b8 xs))) 0 n = some (.agg ⟨b8 xs⟩) := row_cut hn
theorem cut32 {xs : List (BitVec 32)} (hn : xs.length = n) : cutV (some (.row k es (b32 xs))) 0 n = some (.agg ⟨b32 xs⟩) := row_cut hn
theorem puts8 {xs ys : List (BitVec 8)} (hy : ys.length = n) (hx : xs.length = n) : putV h b 0 n (b8 ys) (some (.row .rw es (b8 xs))) = some (h.put b (some (.row .rw es (b8 ys)))) := row_puts (fun _ => rfl) hy hx
theorem puts32 {xs ys : List (BitVec 32)} (hy : ys.length = n) (hx : xs.length = n) : putV h b 0 n (b32 ys) (some (.row .rw es (b32 xs))) = some (h.put b (some (.row .rw es (b32 ys)))) := row_puts (fun _ => rfl) hy hx
theorem box8 {xs : List (BitVec 8)} : evBox (.agg ⟨b8 xs⟩) h = some (.pointer (some ⟨h.nx, 0, none⟩), newRowH h .rw 1 (b8 xs)) := row_box fun _ => rfl
theorem box32 {xs : List (BitVec 32)} : evBox (.agg ⟨b32 xs⟩) h = some (.pointer (some ⟨h.nx, 0, none⟩), newRowH h .rw 1 (b32 xs)) := row_box fun _ => rfl
theorem rep8 {x : BitVec 8} : List.replicate n (w8 x) = b8 (List.replicate n x) := row_rep
theorem rep32 {x : BitVec 32} : List.replicate n (w32 x) = b32 (List.replicate n x) := row_rep
theorem idx8 {xs : List (BitVec 8)} (hi : i < xs.length) : (b8 xs)[i]? = some (w8 (xs.getD i 0#8)) := row_get (k := .ro) (es := 0) (f := w8) _ hi
theorem idx32 {xs : List (BitVec 32)} (hi : i < xs.length) : (b32 xs)[i]? = some (w32 (xs.getD i 0#32)) := row_get (k := .ro) (es := 0) (f := w32) _ hi
theorem closed_b8 (d : Nat) (xs : List (BitVec 8)) : (b8 xs).all (closedV (d + 1)) = true := by simp [b8, closedV, w8]
theorem closed_b32 (d : Nat) (xs : List (BitVec 32)) : (b32 xs).all (closedV (d + 1)) = true := by simp [b32, closedV, w32]
theorem closed_agg8 (d : Nat) (xs : List (BitVec 8)) : closedV (d + 2) (.agg ⟨b8 xs⟩) = true := closed_b8 d xs
theorem closed_agg32 (d : Nat) (xs : List (BitVec 32)) : closedV (d + 2) (.agg ⟨b32 xs⟩) = true := closed_b32 d xs
theorem closed_w8 (d : Nat) (x : BitVec 8) : closedV (d + 1) (w8 x) = true := rfl
theorem closed_w32 (d : Nat) (x : BitVec 32) : closedV (d + 1) (w32 x) = true := rfl
theorem closed_w64 (d : Nat) (x : BitVec 64) : closedV (d + 1) (w64 x) = true := rfl
theorem closed_iv (d : Nat) (x : Nat) : closedV (d + 1) (iv x) = true := rfl
end

/-! slicing, strings -/
theorem bnd_iv {n y : Nat} (h : n ≤ y) : bnd (iv n) y = some n := by simp [bnd, iv, evInt, h]
section
variable {P : Program} {t el : TypeId} {info : TypeInfo} {h : Heap} {b i n k lo hh c : Nat}
theorem sla (hd : P.underlying t = some (.array n el)) (hi : P.info? el = some info) (hs : info.size = k) (h1 : lo ≤ hh) (h2 : hh ≤ n) (h3 : lo < n) :
    evSlice P t (.pointer (some ⟨b, i, none⟩)) (some (iv lo)) (some (iv hh)) none h = some (.slice (some ⟨b, i + lo * k, none⟩) (hh - lo) (n - lo)) := by
  subst hs
  have e : evBounds n n (some (iv lo)) (some (iv hh)) none = some (lo, hh, n) := by
    have e0 : evBounds0 n n (some (iv lo)) (some (iv hh)) none = some (lo, hh, n) := by unfold evBounds0; first | (simp only [bnd_iv h2, bnd_iv h1, h1, h2]; done) | rfl | (simp only [bnd_iv h2, bnd_iv h1, h1, h2]; rfl)
    unfold evBounds
    rw [e0]
    simp [bnd_iv h2, bnd_iv h1, h1, h2]
  unfold evSlice
  rw [hd]
  simp [hi, evSliceArr, e, show ¬ n = lo by omega]
theorem slh (hd : P.underlying t = some (.array n el)) (hi : P.info? el = some info) (hs : info.size = k) (h2 : hh ≤ n) (h3 : 0 < n) :
    evSlice P t (.pointer (some ⟨b, i, none⟩)) none (some (iv hh)) none h = some (.slice (some ⟨b, i, none⟩) hh n) := by
  subst hs
  have e : evBounds n n none (some (iv hh)) none = some (0, hh, n) := by
    have e0 : evBounds0 n n none (some (iv hh)) none = some (0, hh, n) := by unfold evBounds0; first | (simp only [bnd_iv h2, h2]; done) | rfl | (simp only [bnd_iv h2, h2]; rfl)
    unfold evBounds
    rw [e0]
    simp [bnd_iv h2, h2]
  unfold evSlice
  rw [hd]
  simp [hi, evSliceArr, e, show ¬ n = 0 by omega]
theorem sll (hd : P.underlying t = some (.array n el)) (hi : P.info? el = some info) (hs : info.size = k) (h1 : lo < n) :
    evSlice P t (.pointer (some ⟨b, i, none⟩)) (some (iv lo)) none none h = some (.slice (some ⟨b, i + lo * k, none⟩) (n - lo) (n - lo)) := by
  subst hs
  have e : evBounds n n (some (iv lo)) none none = some (lo, n, n) := by
    have e0 : evBounds0 n n (some (iv lo)) none none = some (lo, n, n) := by unfold evBounds0; first | (simp only [bnd_iv (Nat.le_of_lt h1), Nat.le_of_lt h1]; done) | rfl | (simp only [bnd_iv (Nat.le_of_lt h1), Nat.le_of_lt h1]; rfl)
    unfold evBounds
    rw [e0]
    simp [bnd_iv (Nat.le_of_lt h1), Nat.le_of_lt h1]
  unfold evSlice
  rw [hd]
  simp [hi, evSliceArr, e, show ¬ n = lo by omega]
theorem sln (hd : P.underlying t = some (.array n el)) (hi : P.info? el = some info) (h1 : 0 < n) :
    evSlice P t (.pointer (some ⟨b, i, none⟩)) none none none h = some (.slice (some ⟨b, i, none⟩) n n) := by
  have e : evBounds n n none none none = some (0, n, n) := by
    have e0 : evBounds0 n n none none none = some (0, n, n) := by unfold evBounds0; rfl
    unfold evBounds
    rw [e0]
    simp []
  unfold evSlice
  rw [hd]
  simp [hi, evSliceArr, e, show ¬ n = 0 by omega]
theorem slstr {s : ByteArray} (hd : P.underlying t = some .string) (h1 : lo ≤ hh) (h2 : hh ≤ s.size) :
    evSlice P t (.string s) (some (iv lo)) (some (iv hh)) none h = some (.string (s.extract lo hh)) := by
  have e : evBounds s.size s.size (some (iv lo)) (some (iv hh)) none = some (lo, hh, s.size) := by
    have e0 : evBounds0 s.size s.size (some (iv lo)) (some (iv hh)) none = some (lo, hh, s.size) := by unfold evBounds0; first | (simp only [bnd_iv h2, bnd_iv h1, h1, h2]; done) | rfl | (simp only [bnd_iv h2, bnd_iv h1, h1, h2]; rfl)
    unfold evBounds
    rw [e0]
    simp [bnd_iv h2, bnd_iv h1, h1, h2]
  unfold evSlice
  rw [hd]
  simp [e]
end
/-- A string's bytes. -/
def sbytes (s : ByteArray) : List (BitVec 8) := s.data.toList.map UInt8.toBitVec
theorem sbytes_length (s : ByteArray) : (sbytes s).length = s.size := by
  unfold sbytes
  rw [List.length_map, Array.length_toList]
  rfl
theorem sbytes_cells (s : ByteArray) : (s.data.toList.map fun b => Value.int .u8 b.toNat) = b8 (sbytes s) := by
  unfold b8 sbytes
  rw [List.map_map]
  rfl
/-- The string of bytes. -/
def bstr (l : List (BitVec 8)) : ByteArray := ⟨(l.map UInt8.ofBitVec).toArray⟩
theorem bytesOf_b8 : ∀ l : List (BitVec 8), bytesOf (b8 l) = some (l.map UInt8.ofBitVec)
  | [] => rfl
  | x :: l => by
    have ih := bytesOf_b8 l
    show (bytesOf (b8 l)).map _ = _
    rw [ih]
    simp only [Option.map_some, List.map_cons, Option.some.injEq, List.cons.injEq, and_true]
    apply UInt8.toBitVec_inj.1
    simp
section
variable {P : Program} {src dst e : TypeId} {sd : TypeDesc} {h : Heap}
theorem cv_str {s : ByteArray} (hs : P.underlying src = some sd) (hd : P.underlying dst = some (.slice e)) (he : P.underlying e = some (.int .u8)) (h0 : 0 < s.size) (h1 : s.size ≤ 1099511627776) :
    evConvert P src dst (.string s) h = some (.slice (some ⟨h.nx, 0, none⟩) s.size s.size, newRowH h .grow 1 (b8 (sbytes s))) := by
  have e1 : s.size ≤ 2 ^ 40 := h1
  unfold evConvert
  rw [hs, hd]
  simp only [he, show ¬ s.size = 0 by omega, if_false, e1, if_true, sbytes_cells]
end
theorem ba_size (l : List UInt8) : ByteArray.size ⟨l.toArray⟩ = l.length := rfl
theorem ba_extract (l : List UInt8) (lo hh : Nat) : ByteArray.extract ⟨l.toArray⟩ lo hh = ⟨((l.drop lo).take (hh - lo)).toArray⟩ := by
  have h1 : (ByteArray.extract ⟨l.toArray⟩ lo hh).data = l.toArray.extract lo hh := ByteArray.data_extract
  have h2 : l.toArray.extract lo hh = ((l.drop lo).take (hh - lo)).toArray := by
    apply Array.toList_inj.1
    simp [Array.toList_extract]
  cases h3 : ByteArray.extract ⟨l.toArray⟩ lo hh with
  | mk d =>
    rw [h3] at h1
    simp only at h1
    rw [h1, h2]
theorem sb_list (l : List UInt8) : sbytes ⟨l.toArray⟩ = l.map UInt8.toBitVec := rfl
end Go.Proofs.Ytfehhihllenjiaa
/- Equality of arrays of words. -/
set_option linter.all false
namespace Go.Proofs.Ytfehhihllenjiaa

theorem getD_ext {α : Type} {d : α} {xs ys : List α} {n : Nat} (hx : xs.length = n) (hy : ys.length = n) (h : ∀ i, i < n → xs.getD i d = ys.getD i d) : xs = ys := by
  apply List.ext_getElem (by omega)
  intro i h1 h2
  have := h i (by omega)
  simpa [List.getD_eq_getElem?_getD, h1, h2] using this
section
variable {α : Type} [DecidableEq α] {f : α → Value} {P : Program} {t el : TypeId} {n : Nat} {info : TypeInfo} {ed : TypeDesc}
end
section
variable {P : Program} {t el : TypeId} {n : Nat} {info : TypeInfo}
end
end Go.Proofs.Ytfehhihllenjiaa
/- Slices, said by what they hold. -/
set_option linter.all false
namespace Go.Proofs.Ytfehhihllenjiaa

theorem nx_assoc {h : Heap} {a b : Nat} : h.nx + a + b = h.nx + (a + b) := Nat.add_assoc _ _ _
def Fr (lo : Nat) (h h' : Heap) : Prop := h.nx ≤ h'.nx ∧ ∀ r, r < lo → h'.obj r = h.obj r
theorem Fr.refl (lo : Nat) (h : Heap) : Fr lo h h := ⟨Nat.le_refl _, fun _ _ => rfl⟩
theorem Fr.trans {lo : Nat} {h h1 h2 : Heap} (a : Fr lo h h1) (b : Fr lo h1 h2) : Fr lo h h2 := ⟨Nat.le_trans a.1 b.1, fun r hr => (b.2 r hr).trans (a.2 r hr)⟩
theorem Fr.le {lo lo' : Nat} {h h' : Heap} (a : Fr lo h h') (hl : lo' ≤ lo) : Fr lo' h h' := ⟨a.1, fun r hr => a.2 r (by omega)⟩
theorem Fr.new {lo : Nat} {h h' : Heap} (a : Fr lo h h') (hl : lo ≤ h'.nx) (k : Kind) (es : Nat) (cs : List Value) : Fr lo h (newRowH h' k es cs) :=
  ⟨by have := a.1; rw [nx_new]; omega, fun r hr => by rw [obj_new, if_neg (by omega)]; exact a.2 r hr⟩
theorem Fr.put {lo : Nat} {h h' : Heap} (a : Fr lo h h') {b : Nat} (hl : lo ≤ b) (o : Option AObj) : Fr lo h (h'.put b o) :=
  ⟨a.1, fun r hr => by rw [obj_put, if_neg (by omega)]; exact a.2 r hr⟩

/-- A slice of elements of 'es' cells each. -/
inductive Sl (es : Nat) (h : Heap) : Value → Nat → List Value → Prop
  | nil : Sl es h (.slice none 0 0) 0 []
  | empty : Sl es h emptyS 0 []
  | any : Sl es h anyS 0 []
  | row {b i n c : Nat} {k : Kind} {es' : Nat} {cs' : List Value} (hb : b < h.nx) (ho : h.obj b = some (.row k es' cs')) (hes : k = .grow → es' = es) (hn : n ≤ c) (hl : i + n * es ≤ cs'.length) :
      Sl es h (.slice (some ⟨b, i, none⟩) n c) n ((cs'.drop i).take (n * es))
theorem Sl.mk {es : Nat} {h : Heap} {b i n c : Nat} {k : Kind} {es' : Nat} {cs' cs : List Value} (hb : b < h.nx) (ho : h.obj b = some (.row k es' cs')) (hes : k = .grow → es' = es) (hn : n ≤ c) (hl : i + n * es ≤ cs'.length)
    (hc : (cs'.drop i).take (n * es) = cs) : Sl es h (.slice (some ⟨b, i, none⟩) n c) n cs := by
  subst hc; exact .row hb ho hes hn hl
section
variable {es : Nat} {h h' : Heap} {v : Value} {n : Nat} {cs : List Value}
theorem Sl.length (s : Sl es h v n cs) : cs.length = n * es := by
  cases s with
  | nil => simp
  | empty => simp
  | any => simp
  | row hb ho hes hn hl => simp; omega
theorem Sl.keep (s : Sl es h v n cs) (hx : h.nx ≤ h'.nx) (hk : ∀ r ∈ rowsOfV v, h'.obj r = h.obj r) : Sl es h' v n cs := by
  cases s with
  | nil => exact .nil
  | empty => exact .empty
  | any => exact .any
  | row hb ho hes hn hl => exact .row (by omega) ((hk _ (by simp [rowsOfV])).trans ho) hes hn hl
theorem Sl.lt (s : Sl es h v n cs) : ∀ r ∈ rowsOfV v, r < h.nx := by
  cases s with
  | nil => intro r hr; simp [rowsOfV] at hr
  | empty => intro r hr; simp [rowsOfV, emptyS] at hr
  | any => intro r hr; simp [rowsOfV, anyS] at hr
  | row hb ho hes hn hl => intro r hr; simp [rowsOfV] at hr; omega
theorem Sl.fr {lo : Nat} (s : Sl es h v n cs) (f : Fr lo h h') (hl : ∀ r ∈ rowsOfV v, r < lo) : Sl es h' v n cs := s.keep f.1 fun r hr => f.2 r (hl r hr)
theorem Sl.fr0 (s : Sl es h v n cs) (f : Fr h.nx h h') : Sl es h' v n cs := s.fr f s.lt
end

def ptrAt (es : Nat) (v : Value) (i : Nat) : Value :=
  match v with
  | .slice (some ⟨b, o, none⟩) _ _ => .pointer (some ⟨b, o + i * es, none⟩)
  | _ => undef
def subS (es l hh : Nat) (mx : Option Nat) (v : Value) : Value :=
  match v with
  | .slice (some ⟨b, i, none⟩) n c => if mx.getD c = l then (if mx.isSome then emptyS else anyS) else .slice (some ⟨b, i + l * es, none⟩) (hh - l) (mx.getD c - l)
  | .slice (some ⟨_, _, some 1⟩) _ _ => if mx.isSome then emptyS else anyS
  | v => v
section
variable {P : Program} {t el : TypeId} {info : TypeInfo} {es : Nat} {h h' : Heap} {v : Value} {n : Nat} {cs : List Value} {i l hh : Nat}
theorem sl_len (hd : P.underlying t = some (.slice el)) (s : Sl es h v n cs) : evLenB P t v = some (iv n) := by
  cases s with
  | nil => exact len_sl hd
  | empty => exact len_sl hd
  | any => exact len_sl hd
  | row => exact len_sl hd
theorem sl_ia (hd : P.underlying t = some (.slice el)) (hi : P.info? el = some info) (hs : info.size = es) (s : Sl es h v n cs) (hn : i < n) : evIndexAddr P t v (iv i) = some (ptrAt es v i) := by
  cases s with
  | nil => omega
  | empty => omega
  | any => omega
  | row => exact ia_sl hd hi hs hn
theorem sl_ld {d : TypeDesc} (hd : P.underlying el = some d) (hi : P.info? el = some info) (hg : isAggD d = false) (s : Sl 1 h v n cs) (hn : i < n) : evLoad P el (ptrAt 1 v i) h = cs[i]? := by
  cases s with
  | nil => omega
  | empty => omega
  | any => omega
  | row hb ho hes hn' hl =>
    have := ld_scalar (P := P) (h := h) (b := by assumption) (i := by assumption) hd hi hg
    show evLoad P el (.pointer (some ⟨_, _, none⟩)) h = _
    rw [ld_scalar hd hi hg, ho, cellV_row, List.getElem?_take, if_pos (by omega), List.getElem?_drop]
    simp
theorem bounds_eq {len cap l hh m : Nat} {lo hi mx : Option Value} (h0 : evBounds0 len cap lo hi mx = some (l, hh, m)) (h1 : l ≤ hh) (h2 : hh ≤ m) : evBounds len cap lo hi mx = some (l, hh, m) := by
  unfold evBounds; rw [h0]; exact if_pos ⟨h1, h2⟩
theorem sl_sub0 {lo hi mx : Option Value} {m : Option Nat} (hd : P.underlying t = some (.slice el)) (hin : P.info? el = some info) (hs : info.size = es) (s : Sl es h v n cs) (hmx : mx.isSome = m.isSome)
    (hb : ∀ c, n ≤ c → evBounds n c lo hi mx = some (l, hh, m.getD c)) (hh' : hh ≤ n) : evSlice P t v lo hi mx h = some (subS es l hh m v) := by
  cases s with
  | nil =>
    have hb0 := hb 0 (Nat.le_refl _)
    unfold evSlice; rw [hd]; simp only [hin, hb0]; rfl
  | empty =>
    have hb0 := hb 0 (Nat.le_refl _)
    unfold evSlice emptyS; rw [hd]; simp only [hin, hb0]; rfl
  | any =>
    have hb0 := hb 0 (Nat.le_refl _)
    unfold evSlice anyS; rw [hd]; simp only [hin, hb0, subS, hmx]; rfl
  | row hbn ho hes hn hl =>
    have hb0 := hb _ hn
    unfold evSlice; rw [hd]
    simp only [hin, ho, hb0, subS, hmx, hs]
    split
    · split <;> rfl
    · first | rfl | rw [if_pos hes]
theorem sl_slh (hd : P.underlying t = some (.slice el)) (hin : P.info? el = some info) (hs : info.size = es) (s : Sl es h v n cs) (h1 : l ≤ hh) (h2 : hh ≤ n) :
    evSlice P t v (some (iv l)) (some (iv hh)) none h = some (subS es l hh none v) := by
  refine sl_sub0 hd hin hs s rfl (fun c hc => bounds_eq ?_ h1 (by simp; omega)) h2
  unfold evBounds0; simp only [bnd_iv (show hh ≤ c by omega), bnd_iv h1, Option.getD_none]
theorem sl_h (hd : P.underlying t = some (.slice el)) (hin : P.info? el = some info) (hs : info.size = es) (s : Sl es h v n cs) (h2 : hh ≤ n) :
    evSlice P t v none (some (iv hh)) none h = some (subS es 0 hh none v) := by
  refine sl_sub0 hd hin hs s rfl (fun c hc => bounds_eq ?_ (Nat.zero_le _) (by simp; omega)) h2
  unfold evBounds0; simp only [bnd_iv (show hh ≤ c by omega), Option.getD_none]
theorem sl_l (hd : P.underlying t = some (.slice el)) (hin : P.info? el = some info) (hs : info.size = es) (s : Sl es h v n cs) (h1 : l ≤ n) :
    evSlice P t v (some (iv l)) none none h = some (subS es l n none v) := by
  refine sl_sub0 hd hin hs s rfl (fun c hc => bounds_eq ?_ h1 (by simp; omega)) (Nat.le_refl _)
  unfold evBounds0; simp only [bnd_iv h1, Option.getD_none]
theorem sl_n (hd : P.underlying t = some (.slice el)) (hin : P.info? el = some info) (hs : info.size = es) (s : Sl es h v n cs) :
    evSlice P t v none none none h = some (subS es 0 n none v) := by
  refine sl_sub0 hd hin hs s rfl (fun c hc => bounds_eq ?_ (Nat.zero_le _) (by simp; omega)) (Nat.le_refl _)
  unfold evBounds0; simp only [Option.getD_none]
theorem sl_hm (hd : P.underlying t = some (.slice el)) (hin : P.info? el = some info) (hs : info.size = es) (s : Sl es h v n cs) (h2 : hh ≤ n) {m : Nat} (h3 : hh ≤ m) (h4 : m ≤ n) :
    evSlice P t v none (some (iv hh)) (some (iv m)) h = some (subS es 0 hh (some m) v) := by
  refine sl_sub0 hd hin hs s rfl (fun c hc => bounds_eq ?_ (Nat.zero_le _) (by simp; omega)) h2
  unfold evBounds0; simp only [bnd_iv (show m ≤ c by omega), bnd_iv h3, Option.getD_some]
theorem sl_lhm (hd : P.underlying t = some (.slice el)) (hin : P.info? el = some info) (hs : info.size = es) (s : Sl es h v n cs) (h1 : l ≤ hh) (h2 : hh ≤ n) {m : Nat} (h3 : hh ≤ m) (h4 : m ≤ n) :
    evSlice P t v (some (iv l)) (some (iv hh)) (some (iv m)) h = some (subS es l hh (some m) v) := by
  refine sl_sub0 hd hin hs s rfl (fun c hc => bounds_eq ?_ h1 (by simp; omega)) h2
  unfold evBounds0; simp only [bnd_iv (show m ≤ c by omega), bnd_iv h3, bnd_iv h1, Option.getD_some]
theorem Sl.sub {mx : Option Nat} (s : Sl es h v n cs) (h1 : l ≤ hh) (h2 : hh ≤ n) (h3 : ∀ m, mx = some m → hh ≤ m) : Sl es h (subS es l hh mx v) (hh - l) ((cs.drop (l * es)).take ((hh - l) * es)) := by
  have z : ∀ {hh l : Nat}, l ≤ hh → hh ≤ 0 → hh - l = 0 := by intros; omega
  cases s with
  | nil =>
    rw [z h1 h2]; simp only [List.drop_nil, List.take_nil]; exact .nil
  | empty =>
    rw [z h1 h2]; simp only [List.drop_nil, List.take_nil]; exact .empty
  | any =>
    rw [z h1 h2]; simp only [List.drop_nil, List.take_nil]
    show Sl es h (if mx.isSome then emptyS else anyS) 0 []
    split
    · exact .empty
    · exact .any
  | row hb ho hes hn hl =>
    rename_i b i c k es' cs'
    have hm : hh ≤ mx.getD c := by
      cases mx with
      | none => simp; omega
      | some m => simpa using h3 m rfl
    have e1 : (hh - l) * es + l * es = hh * es := by rw [← Nat.add_mul]; congr 1; omega
    have e2 : hh * es ≤ n * es := Nat.mul_le_mul_right _ h2
    show Sl es h (if mx.getD c = l then (if mx.isSome then emptyS else anyS) else .slice (some ⟨b, i + l * es, none⟩) (hh - l) (mx.getD c - l)) (hh - l) _
    split
    · rename_i he
      have : hh - l = 0 := by omega
      rw [this]; simp only [Nat.zero_mul, List.take_zero]
      split
      · exact .empty
      · exact .any
    · refine .mk hb ho hes (by omega) (by omega) ?_
      rw [List.drop_take, List.take_take, List.drop_drop, Nat.min_eq_left (by omega)]
theorem Sl.sub_rows {mx : Option Nat} : ∀ r ∈ rowsOfV (subS es l hh mx v), r ∈ rowsOfV v := by
  intro r hr
  unfold subS at hr
  split at hr
  · split at hr
    · split at hr <;> simp [rowsOfV, emptyS, anyS] at hr
    · simpa [rowsOfV] using hr
  · split at hr <;> simp [rowsOfV, emptyS, anyS] at hr
  · exact hr
theorem sl_elems (s : Sl es h v n cs) {m : Nat} (hm : m ≤ n) : evElems es m v h = some (cs.take (m * es)) := by
  cases s with
  | nil =>
    have : m = 0 := by omega
    subst this; simp [evElems]
  | empty =>
    have : m = 0 := by omega
    subst this; simp [evElems, emptyS]
  | any =>
    have : m = 0 := by omega
    subst this; simp [evElems, anyS]
  | row hb ho hes hn hl =>
    have e2 : m * es ≤ n * es := Nat.mul_le_mul_right _ hm
    simp only [evElems, ho]
    rw [if_pos (by omega), List.take_take, Nat.min_eq_left e2]
end

theorem sl_shape {es : Nat} {h : Heap} {v : Value} {n : Nat} {cs : List Value} (s : Sl es h v n cs) : ∃ a c, v = .slice a n c := by
  cases s <;> exact ⟨_, _, rfl⟩
theorem sl_evLen {es : Nat} {h : Heap} {v : Value} {n : Nat} {cs : List Value} (s : Sl es h v n cs) : evLen v = some n := by cases s <;> rfl

/-! bytes -/
abbrev By (h : Heap) (v : Value) (xs : List (BitVec 8)) : Prop := Sl 1 h v xs.length (b8 xs)
theorem b8_length (xs : List (BitVec 8)) : (b8 xs).length = xs.length := by simp [b8]
theorem b8_append (xs ys : List (BitVec 8)) : b8 (xs ++ ys) = b8 xs ++ b8 ys := by simp [b8]
theorem b8_take (xs : List (BitVec 8)) (n : Nat) : b8 (xs.take n) = (b8 xs).take n := by simp [b8, List.map_take]
theorem b8_drop (xs : List (BitVec 8)) (n : Nat) : b8 (xs.drop n) = (b8 xs).drop n := by simp [b8, List.map_drop]
theorem b8_one (xs : List (BitVec 8)) : (b8 xs).all (fun v => v.oneCell') = true := by simp [b8, w8]; intros; rfl
theorem b8_nil : b8 [] = [] := rfl
theorem By.mk {h : Heap} {b i c : Nat} {k : Kind} {es' : Nat} {ys xs : List (BitVec 8)} {n : Nat} (hb : b < h.nx) (ho : h.obj b = some (.row k es' (b8 ys))) (hes : k = .grow → es' = 1) (hn : n ≤ c) (hl : i + n ≤ ys.length) (hx : (ys.drop i).take n = xs) :
    By h (.slice (some ⟨b, i, none⟩) n c) xs := by
  have hlen : xs.length = n := by subst hx; simp; omega
  unfold By
  rw [hlen]
  exact Sl.mk hb ho hes hn (by rw [b8_length]; omega) (by rw [Nat.mul_one, ← b8_drop, ← b8_take, hx])
section
variable {P : Program} {t el src dst : TypeId} {info : TypeInfo} {h h' : Heap} {v w : Value} {xs ys : List (BitVec 8)} {i l hh : Nat}
theorem by_ld (hd : P.underlying el = some (.int .u8)) (hi : P.info? el = some info) (s : By h v xs) (hn : i < xs.length) : evLoad P el (ptrAt 1 v i) h = some (w8 (xs.getD i 0#8)) := by
  rw [sl_ld hd hi rfl s hn, idx8 hn]
theorem By.sub {mx : Option Nat} (s : By h v xs) (h1 : l ≤ hh) (h2 : hh ≤ xs.length) (h3 : ∀ m, mx = some m → hh ≤ m) : By h (subS 1 l hh mx v) ((xs.drop l).take (hh - l)) := by
  have := Sl.sub (mx := mx) s h1 h2 h3
  unfold By
  rw [b8_take, b8_drop, List.length_take, List.length_drop, Nat.min_eq_left (by omega)]
  simpa using this
theorem By.subh {mx : Option Nat} (s : By h v xs) (h2 : hh ≤ xs.length) (h3 : ∀ m, mx = some m → hh ≤ m) : By h (subS 1 0 hh mx v) (xs.take hh) := by
  have := By.sub (mx := mx) s (Nat.zero_le _) h2 h3
  simpa using this
theorem By.subl (s : By h v xs) (h2 : l ≤ xs.length) : By h (subS 1 l xs.length none v) (xs.drop l) := by
  have := By.sub (mx := none) s h2 (Nat.le_refl _) (fun m hm => nomatch hm)
  have e : (xs.drop l).take (xs.length - l) = xs.drop l := List.take_of_length_le (by simp)
  rwa [e] at this
theorem by_str {sd : TypeDesc} (hs : P.underlying src = some (.slice el)) (hd : P.underlying dst = some .string) (he : P.underlying el = some (.int .u8)) (s : By h v xs) : evConvert P src dst v h = some (.string (bstr xs), h) := by
  have h1 := sl_elems s (Nat.le_refl _)
  have e : (b8 xs).take (xs.length * 1) = b8 xs := List.take_of_length_le (by simp [b8])
  rw [e] at h1
  have main : ∀ a n c, v = .slice a n c → n = xs.length → evConvert P src dst v h = some (.string (bstr xs), h) := by
    intro a n c hv hn
    subst hv hn
    unfold evConvert
    rw [hs, hd]
    simp only [he, h1, bytesOf_b8]
    rfl
  obtain ⟨a, c, hv⟩ := sl_shape s
  exact main _ _ _ hv rfl
theorem bstr_toList (xs : List (BitVec 8)) : (bstr xs).toList = xs.map UInt8.ofBitVec := by
  rw [ByteArray.toList_eq]; rfl
theorem ofBitVec_inj {a b : BitVec 8} (h : UInt8.ofBitVec a = UInt8.ofBitVec b) : a = b := by
  have := congrArg UInt8.toBitVec h
  simpa using this
theorem bstr_beq : ((bstr xs).toList == (bstr ys).toList) = decide (xs = ys) := by
  rw [bstr_toList, bstr_toList]
  by_cases h : xs = ys
  · subst h; simp
  · have : ¬ xs.map UInt8.ofBitVec = ys.map UInt8.ofBitVec := fun hh => h ((List.map_inj_right (f := UInt8.ofBitVec) fun _ _ h => ofBitVec_inj h).1 hh)
    rw [decide_eq_false h]
    simpa using this
theorem str_eql {l : Bool} : evBin P .eql t l (.string (bstr xs)) (.string (bstr ys)) = some (.bool (decide (xs = ys))) := by
  show some (Value.bool ((bstr xs).toList == (bstr ys).toList)) = _
  rw [bstr_beq]
theorem str_neq {l : Bool} : evBin P .neq t l (.string (bstr xs)) (.string (bstr ys)) = some (.bool (!decide (xs = ys))) := by
  show some (Value.bool (!((bstr xs).toList == (bstr ys).toList))) = _
  rw [bstr_beq]
end

/-! slices that are one's own -/
structure ElOk (P : Program) (t el : TypeId) (info : TypeInfo) (es : Nat) (z : Value) : Prop where
  hd : P.underlying t = some (.slice el)
  hi : P.info? el = some info
  hs : info.size = es
  hz : zeroC info = some z
  hc : z.cells.size = es
  h0 : 0 < es
  hb : info.bytes ≤ 2 ^ 12
inductive Ow (lo es : Nat) (h : Heap) : Value → Nat → List Value → Prop
  | nil : Ow lo es h (.slice none 0 0) 0 []
  | empty : Ow lo es h emptyS 0 []
  | row {b n c : Nat} {k : Kind} {cs' : List Value} (hlo : lo ≤ b) (hb : b < h.nx) (hk : k ≠ .ro) (ho : h.obj b = some (.row k es cs')) (hn : n ≤ c) (hrw : k = .rw → c * es = cs'.length) (hgr : k = .grow → n = c ∧ cs'.length = n * es) :
      Ow lo es h (.slice (some ⟨b, 0, none⟩) n c) n (cs'.take (n * es))
theorem Ow.mk {lo es : Nat} {h : Heap} {b n c : Nat} {k : Kind} {cs' cs : List Value} (hlo : lo ≤ b) (hb : b < h.nx) (hk : k ≠ .ro) (ho : h.obj b = some (.row k es cs')) (hn : n ≤ c) (hrw : k = .rw → c * es = cs'.length) (hgr : k = .grow → n = c ∧ cs'.length = n * es)
    (hc : cs'.take (n * es) = cs) : Ow lo es h (.slice (some ⟨b, 0, none⟩) n c) n cs := by subst hc; exact .row hlo hb hk ho hn hrw hgr
section
variable {lo es : Nat} {h h' : Heap} {v w : Value} {n m : Nat} {cs ys : List Value}
theorem Ow.sl (s : Ow lo es h v n cs) : Sl es h v n cs := by
  cases s with
  | nil => exact .nil
  | empty => exact .empty
  | row hlo hb hk ho hn hrw hgr =>
    rename_i b c k cs'
    have hle : n * es ≤ cs'.length := by
      cases k with
      | ro => exact absurd rfl hk
      | rw => rw [← hrw rfl]; exact Nat.mul_le_mul_right _ hn
      | grow => rw [(hgr rfl).2]; omega
    exact .mk hb ho (fun _ => rfl) hn (by omega) (by simp)
theorem Ow.keep (s : Ow lo es h v n cs) (hx : h.nx ≤ h'.nx) (hk : ∀ r ∈ rowsOfV v, h'.obj r = h.obj r) : Ow lo es h' v n cs := by
  cases s with
  | nil => exact .nil
  | empty => exact .empty
  | row hlo hb hk' ho hn hrw hgr => exact .row hlo (by omega) hk' ((hk _ (by simp [rowsOfV])).trans ho) hn hrw hgr
theorem Ow.rows (s : Ow lo es h v n cs) : ∀ r ∈ rowsOfV v, lo ≤ r ∧ r < h.nx := by
  cases s with
  | nil => intro r hr; simp [rowsOfV] at hr
  | empty => intro r hr; simp [rowsOfV, emptyS] at hr
  | row hlo hb => intro r hr; simp [rowsOfV] at hr; subst hr; exact ⟨hlo, hb⟩
theorem Ow.at (s : Ow lo es h v n cs) {lo' : Nat} (hl : ∀ r ∈ rowsOfV v, lo' ≤ r) : Ow lo' es h v n cs := by
  cases s with
  | nil => exact .nil
  | empty => exact .empty
  | row hlo hb hk' ho hn hrw hgr => exact .row (hl _ (by simp [rowsOfV])) hb hk' ho hn hrw hgr
theorem Ow.le (s : Ow lo es h v n cs) {lo' : Nat} (hl : lo' ≤ lo) : Ow lo' es h v n cs := s.at fun r hr => Nat.le_trans hl (s.rows r hr).1
/-- What becomes of the rest, where an own slice is written. -/
structure Went (v v' : Value) (h h' : Heap) : Prop where
  nx : h.nx ≤ h'.nx
  rest : ∀ r, r < h.nx → r ∉ rowsOfV v → h'.obj r = h.obj r
  rows : ∀ r ∈ rowsOfV v', r ∈ rowsOfV v ∨ h.nx ≤ r
theorem Went.fr {v' : Value} (w : Went v v' h h') (hl : lo ≤ h.nx) (hv : ∀ r ∈ rowsOfV v, lo ≤ r) : Fr lo h h' := ⟨w.nx, fun r hr => w.rest r (by omega) fun hm => by have := hv r hm; omega⟩
theorem Went.owFr {v' : Value} (w : Went v v' h h') (hl : lo ≤ h.nx) (s : Ow lo es h v n cs) : Fr lo h h' := w.fr hl fun r hr => (s.rows r hr).1
section
variable {P : Program} {t el xt el2 : TypeId} {info : TypeInfo} {z : Value}
theorem new_sl (hx : P.underlying xt = some (.slice el2)) (hs : info.size = es) (s : Sl es h w m ys) : evNew P info z xt w h = some (m, ys) := by
  have h1 := sl_elems s (Nat.le_refl _)
  rw [List.take_of_length_le (by rw [s.length]; omega)] at h1
  unfold evNew
  rw [hx]
  simp only [Option.bind_some, appKind, sl_evLen s, hs, h1, s.length, if_true]
theorem new_int {k : IntKind} (hx : P.underlying xt = some (.int k)) (hm : m ≤ 4294967296) : evNew P info z xt (iv m) h = some (m, zeroCellsL z.cells.toList m) := by
  unfold evNew
  rw [hx]
  have : (0 : Int) ≤ m ∧ (m : Int) ≤ 2 ^ 32 := by constructor <;> omega
  simp only [Option.bind_some, appKind, evInt, iv, this, and_self, if_true, Int.toNat_natCast]
theorem app_ow (E : ElOk P t el info es z) (s : Ow lo es h v n cs) (hn : evNew P info z xt w h = some (m, ys)) (hy : ys.length = m * es) (h1 : ys.all (fun v => v.oneCell') = true) (hl : lo ≤ h.nx) (hle : n + m ≤ 4294967296) :
    ∃ v' h', evAppend P t xt v w h = some (v', h') ∧ Ow lo es h' v' (n + m) (cs ++ ys) ∧ Went v v' h h' := by
  have c1 : z.cells.size = info.size ∧ 0 < info.size ∧ info.bytes ≤ 2 ^ 12 ∧ ys.all (fun v => v.oneCell') = true := ⟨by rw [E.hc, E.hs], by rw [E.hs]; exact E.h0, E.hb, h1⟩
  have hm32 : m ≤ 2 ^ 32 := by omega
  have fresh : ∀ (h2 : Heap) (pre : List Value), h2.nx = h.nx → pre.length = n * es → pre = cs → (∀ r, r < h.nx → r ∉ rowsOfV v → h2.obj r = h.obj r) → 0 < n + m →
      Ow lo es (newRowH h2 .grow es (pre ++ ys)) (.slice (some ⟨h.nx, 0, none⟩) (n + m) (n + m)) (n + m) (cs ++ ys) ∧ Went v (.slice (some ⟨h.nx, 0, none⟩) (n + m) (n + m)) h (newRowH h2 .grow es (pre ++ ys)) := by
    intro h2 pre hnx hp hpc hr3 _
    subst hpc
    have hlen : (pre ++ ys).length = (n + m) * es := by rw [List.length_append, hp, hy, Nat.add_mul]
    refine ⟨.mk (k := .grow) (cs' := pre ++ ys) hl (by rw [nx_new]; omega) (by simp) (by rw [obj_new, if_pos hnx.symm]) (Nat.le_refl _) (fun h => by cases h) (fun _ => ⟨rfl, hlen⟩) (List.take_of_length_le (by omega)), ⟨by rw [nx_new]; omega, fun r hr hm => by rw [obj_new, if_neg (by omega)]; exact hr3 r hr hm, fun r hr => .inr (by simp [rowsOfV] at hr; omega)⟩⟩
  cases s with
  | nil =>
    simp only [evAppend, E.hd, E.hi, E.hz, hn]
    rw [if_pos c1]
    by_cases h0 : m = 0
    · subst h0
      have : ys = [] := List.length_eq_zero_iff.1 (by simpa using hy)
      subst this
      exact ⟨_, _, if_pos rfl, .nil, ⟨Nat.le_refl _, fun _ _ _ => rfl, fun r hr => .inl hr⟩⟩
    · rw [if_neg h0, if_pos hm32]
      obtain ⟨o, wt⟩ := fresh h [] rfl (by simp) rfl (fun _ _ _ => rfl) (by omega)
      simp only [List.nil_append, Nat.zero_add] at o wt
      rw [E.hs]
      exact ⟨_, _, rfl, by rw [Nat.zero_add]; exact o, wt⟩
  | empty =>
    simp only [evAppend, E.hd, E.hi, E.hz, hn, emptyS]
    rw [if_pos c1]
    by_cases h0 : m = 0
    · subst h0
      have : ys = [] := List.length_eq_zero_iff.1 (by simpa using hy)
      subst this
      exact ⟨_, _, if_pos rfl, .empty, ⟨Nat.le_refl _, fun _ _ _ => rfl, fun r hr => .inl hr⟩⟩
    · rw [if_neg h0, if_pos hm32]
      obtain ⟨o, wt⟩ := fresh h [] rfl (by simp) rfl (fun _ _ _ => rfl) (by omega)
      simp only [List.nil_append, Nat.zero_add] at o wt
      rw [E.hs]
      exact ⟨_, _, rfl, by rw [Nat.zero_add]; exact o, wt⟩
  | row hlo hb hk ho hnc hrw hgr =>
    rename_i b c k cs'
    simp only [evAppend, E.hd, E.hi, E.hz, hn, ho]
    rw [if_pos c1]
    have hle2 : n * es ≤ cs'.length := by
      cases k with
      | ro => exact absurd rfl hk
      | rw => rw [← hrw rfl]; exact Nat.mul_le_mul_right _ hnc
      | grow => rw [(hgr rfl).2]; omega
    by_cases h0 : m = 0
    · subst h0
      have : ys = [] := List.length_eq_zero_iff.1 (by simpa using hy)
      subst this
      rw [if_pos (by omega), if_pos rfl]
      exact ⟨_, _, rfl, by simpa using Ow.row hlo hb hk ho hnc hrw hgr, ⟨Nat.le_refl _, fun _ _ _ => rfl, fun r hr => .inl hr⟩⟩
    by_cases hfit : n + m ≤ c
    · have hkw : k = .rw := by
        cases k with
        | ro => exact absurd rfl hk
        | rw => rfl
        | grow => have := (hgr rfl).1; omega
      subst hkw
      have hcl := hrw rfl
      have hroom : (n + m) * es ≤ cs'.length := by rw [← hcl]; exact Nat.mul_le_mul_right _ hfit
      rw [if_pos hfit, if_neg h0, if_pos ⟨by simp, by rw [E.hs]; omega⟩, E.hs]
      refine ⟨_, _, rfl, .mk (k := .rw) (cs' := setAt cs' (n * es) ys) hlo hb (by simp) (by rw [obj_put, if_pos rfl, Nat.zero_add]) hfit (fun _ => by rw [setAt_length]; exact hcl) (fun h => by cases h) ?_, ⟨Nat.le_refl _, fun r _ hm => by rw [obj_put, if_neg]; simpa [rowsOfV] using hm, fun r hr => .inl (by simpa [rowsOfV] using hr)⟩⟩
      have e : cs' = cs'.take (n * es) ++ cs'.drop (n * es) := by simp
      have hlt : (cs'.take (n * es)).length = n * es := by simp; omega
      have e2 : setAt cs' (n * es) ys = cs'.take (n * es) ++ (ys ++ (cs'.drop (n * es)).drop ys.length) := by
        have := setAt_append ys (cs'.take (n * es)) (cs'.drop (n * es)) (by rw [hy]; simp; rw [Nat.add_mul] at hroom; omega)
        rw [hlt] at this
        rw [← this, List.take_append_drop]
      rw [e2, ← List.append_assoc, List.take_append_of_le_length (by rw [List.length_append, hlt, hy, Nat.add_mul]; omega), List.take_of_length_le (by rw [List.length_append, hlt, hy, Nat.add_mul]; omega)]
    · rw [if_neg hfit, if_pos ⟨by omega, hnc, by rw [E.hs]; omega⟩, E.hs]
      have hpre : ((cs'.drop 0).take (n * es)) = cs'.take (n * es) := by simp
      by_cases hex : exactS k 0 c es cs' = true
      · rw [if_pos hex]
        obtain ⟨o, wt⟩ := fresh h ((cs'.drop 0).take (n * es)) rfl (by simp; omega) (by simp) (fun _ _ _ => rfl) (by omega)
        exact ⟨_, _, rfl, o, wt⟩
      · have hkg : k = .grow := by
          cases k with
          | ro => exact absurd rfl hk
          | rw => exact absurd rfl hex
          | grow => rfl
        subst hkg
        rw [if_neg hex, if_pos ⟨(hgr rfl).1, rfl⟩]
        obtain ⟨o, wt⟩ := fresh (h.put b none) ((cs'.drop 0).take (n * es)) rfl (by simp; omega) (by simp) (fun r _ hm => by rw [obj_put, if_neg]; simpa [rowsOfV] using hm) (by omega)
        exact ⟨_, _, rfl, o, wt⟩
end
end
end Go.Proofs.Ytfehhihllenjiaa
/- The rules of a walk, bundled. -/
set_option linter.all false
namespace Go.Proofs.Ytfehhihllenjiaa
def RA := (And.intro (And.intro (And.intro (And.intro (And.intro (And.intro (And.intro @ev_tmp (And.intro @ev_const @ev_func)) (And.intro @upd_apply (And.intro @okV_some @okVH_some))) (And.intro (And.intro @okH_some (And.intro @op_move @op_assign)) (And.intro @op_pick (And.intro @op_alloc @op_box)))) (And.intro (And.intro (And.intro @op_build (And.intro @op_buildSlice @op_load)) (And.intro @op_store (And.intro @op_nilCheck @op_binOp))) (And.intro (And.intro @op_unOp (And.intro @op_convert @op_toArr)) (And.intro (And.intro @op_makeFunc @op_makeSlice) (And.intro @op_slice @op_fieldAddr))))) (And.intro (And.intro (And.intro (And.intro @op_field (And.intro @op_indexAddr @op_index)) (And.intro @op_extract (And.intro @op_call @op_builtin))) (And.intro (And.intro @bi_len (And.intro @bi_cap @bi_append)) (And.intro (And.intro @bi_copy @pickV_true) (And.intro @pickV_false @pickV_bool)))) (And.intro (And.intro (And.intro @lit_w8 (And.intro @lit_w32 @lit_w64)) (And.intro @lit_iv (And.intro @List.map_cons.{0,0} @List.map_nil.{0,0}))) (And.intro (And.intro @Option.map_some.{0,0} (And.intro @Option.map_none.{0,0} @if_true.{1})) (And.intro (And.intro @if_false.{1} @w8_add) (And.intro @w8_sub @w8_mul)))))) (And.intro (And.intro (And.intro (And.intro (And.intro @w8_and (And.intro @w8_or @w8_xor)) (And.intro @w8_andNot (And.intro @w8_eql @w8_neq))) (And.intro (And.intro @w8_lss (And.intro @w8_leq @w8_gtr)) (And.intro @w8_geq (And.intro @w8_shl @w8_shr)))) (And.intro (And.intro (And.intro @w8_shl8 (And.intro @w8_shr8 @w8_shl32)) (And.intro @w8_shr32 (And.intro @w8_shl64 @w8_shr64))) (And.intro (And.intro @w8_neg (And.intro @w8_not @w32_add)) (And.intro (And.intro @w32_sub @w32_mul) (And.intro @w32_and @w32_or))))) (And.intro (And.intro (And.intro (And.intro @w32_xor (And.intro @w32_andNot @w32_eql)) (And.intro @w32_neq (And.intro @w32_lss @w32_leq))) (And.intro (And.intro @w32_gtr (And.intro @w32_geq @w32_shl)) (And.intro (And.intro @w32_shr @w32_shl8) (And.intro @w32_shr8 @w32_shl32)))) (And.intro (And.intro (And.intro @w32_shr32 (And.intro @w32_shl64 @w32_shr64)) (And.intro @w32_neg (And.intro @w32_not @w64_add))) (And.intro (And.intro @w64_sub (And.intro @w64_mul @w64_and)) (And.intro (And.intro @w64_or @w64_xor) (And.intro @w64_andNot @w64_eql))))))) (And.intro (And.intro (And.intro (And.intro (And.intro (And.intro @w64_neq (And.intro @w64_lss @w64_leq)) (And.intro @w64_gtr (And.intro @w64_geq @w64_shl))) (And.intro (And.intro @w64_shr (And.intro @w64_shl8 @w64_shr8)) (And.intro @w64_shl32 (And.intro @w64_shr32 @w64_shl64)))) (And.intro (And.intro (And.intro @w64_shr64 (And.intro @w64_neg @w64_not)) (And.intro @iv_add (And.intro @iv_sub @iv_mul))) (And.intro (And.intro @iv_quo (And.intro @iv_rem @iv_eql)) (And.intro (And.intro @iv_neq @iv_lss) (And.intro @iv_leq @iv_gtr))))) (And.intro (And.intro (And.intro (And.intro @iv_geq (And.intro @iv_shl @iv_shr)) (And.intro @eq_self.{1} (And.intro @decide_true @decide_false))) (And.intro (And.intro @Bool.not_true (And.intro @Bool.not_false @Bool.false_eq_true)) (And.intro (And.intro @un_not @envOf0) (And.intro @envOf1 @envOf2)))) (And.intro (And.intro (And.intro @envOf3 (And.intro @envOf4 @envOf5)) (And.intro @ba_size (And.intro @ba_extract @sb_list))) (And.intro (And.intro @List.drop_succ_cons.{0} (And.intro @List.drop_zero.{0} @List.take_succ_cons.{0})) (And.intro (And.intro @List.take_zero.{0} @nil_ptr) (And.intro @nil_fun @nil_yield)))))) (And.intro (And.intro (And.intro (And.intro (And.intro @get8 (And.intro @get32 @put8)) (And.intro @put32 (And.intro @put8g @cut8))) (And.intro (And.intro @cut32 (And.intro @puts8 @puts32)) (And.intro (And.intro @box8 @box32) (And.intro @rep8 @rep32)))) (And.intro (And.intro (And.intro @idx8 (And.intro @idx32 @cellV_row)) (And.intro @put1_rw (And.intro @put1_gr @box_one))) (And.intro (And.intro @box_agg (And.intro @obj_new @nx_new)) (And.intro (And.intro @obj_put @nx_put) (And.intro @ext_tup @Nat.zero_add))))) (And.intro (And.intro (And.intro (And.intro @Nat.mul_one (And.intro @Nat.add_zero @List.length_cons.{0})) (And.intro @List.length_nil.{0} (And.intro @List.length_set.{0} @List.length_replicate.{0}))) (And.intro (And.intro @List.getElem?_cons_zero.{0} (And.intro @List.getElem?_cons_succ.{0} @List.all_cons.{0})) (And.intro (And.intro @List.all_nil.{0} @Bool.and_true) (And.intro @one_w8 @one_w32)))) (And.intro (And.intro (And.intro @one_w64 (And.intro @one_iv @cells_w8)) (And.intro @cells_w32 (And.intro @cells_w64 @cells_iv))) (And.intro (And.intro @Nat.add_eq_left (And.intro @Nat.left_eq_add @Nat.add_left_cancel_iff)) (And.intro (And.intro @List.set_cons_zero.{0} @List.set_cons_succ.{0}) (And.intro @Nat.lt_irrefl @nx_assoc))))))))
def RV := (And.intro (And.intro (And.intro (And.intro @iv_add @iv_sub) (And.intro @iv_mul (And.intro @iv_quo @iv_rem))) (And.intro (And.intro @iv_shl (And.intro @iv_shr @get8)) (And.intro @get32 (And.intro @put8 @put32)))) (And.intro (And.intro (And.intro @put8g @cut8) (And.intro @cut32 (And.intro @puts8 @puts32))) (And.intro (And.intro @idx8 (And.intro @idx32 @put1_rw)) (And.intro @put1_gr (And.intro @List.length_set.{0} @List.length_replicate.{0})))))
def RE := (And.intro (And.intro (And.intro @ev_tmp @ev_const) (And.intro @upd_apply (And.intro @if_true.{1} @if_false.{1}))) (And.intro (And.intro @decide_true @decide_false) (And.intro @Nat.lt_irrefl (And.intro @Bool.not_true @Bool.not_false))))
def RY := (And.intro (And.intro (And.intro @Option.bind_some.{0,0} @upd_apply) (And.intro @if_true.{1} @if_false.{1})) (And.intro (And.intro @List.getElem?_toArray.{0} @List.getElem?_cons_zero.{0}) (And.intro @List.getElem?_cons_succ.{0} (And.intro @decide_true @decide_false))))
def RH := (And.intro (And.intro (And.intro @obj_put (And.intro @obj_new @nx_new)) (And.intro (And.intro @nx_put @upd_apply) (And.intro @Nat.add_eq_left @Nat.left_eq_add))) (And.intro (And.intro @Nat.add_left_cancel_iff (And.intro @Nat.zero_add @if_true.{1})) (And.intro (And.intro @if_false.{1} @List.map_cons.{0,0}) (And.intro @List.map_nil.{0,0} @nx_assoc))))
end Go.Proofs.Ytfehhihllenjiaa
/- Slices in runs; loops with what is kept. -/
set_option linter.all false
namespace Go.Proofs.Ytfehhihllenjiaa

section
variable {P : Program} {R : Nat} {call : Value → Phi} {ar : Option Nat} {e : Env} {h : Heap} {Q : Post}
/-- A loop: slots and rows that stay, and what holds ahead of each round. -/
theorem W_loopK {b : Code} (ts rs : List Nat) (I : Nat → Env → Heap → Prop) (n : Nat) (hn : n < R) (h0 : I 0 e h)
    (hs : ∀ k, k < n → ∀ e' h', ts.map e' = ts.map e → rs.map h'.obj = rs.map h.obj → h.nx ≤ h'.nx → I k e' h' → W (evS P R call ar b e' h') fun x e2 h2 => x = .normal ∧ ts.map e2 = ts.map e' ∧ rs.map h2.obj = rs.map h'.obj ∧ h'.nx ≤ h2.nx ∧ I (k + 1) e2 h2)
    (he : ∀ e' h', ts.map e' = ts.map e → rs.map h'.obj = rs.map h.obj → h.nx ≤ h'.nx → I n e' h' → W (evS P R call ar b e' h') fun x e2 h2 => x ≠ .normal ∧ Q x e2 h2) : W (evS P R call ar (.loop b) e h) Q := by
  refine W_loop (fun k e' h' => ts.map e' = ts.map e ∧ rs.map h'.obj = rs.map h.obj ∧ h.nx ≤ h'.nx ∧ I k e' h') n hn ⟨rfl, rfl, Nat.le_refl _, h0⟩ ?_ ?_
  · intro k hk e' h' ⟨a1, a2, a3, a4⟩
    refine (hs k hk e' h' a1 a2 a3 a4).mono fun x e2 h2 ⟨b1, b2, b3, b4, b5⟩ => ⟨b1, b2.trans a1, b3.trans a2, Nat.le_trans a3 b4, b5⟩
  · intro e' h' ⟨a1, a2, a3, a4⟩
    exact he e' h' a1 a2 a3 a4
end

/-! frames, for the simplifier -/
theorem fr_new {lo : Nat} {h h' : Heap} {k : Kind} {es : Nat} {cs : List Value} (a : Fr lo h h') (hl : lo ≤ h'.nx) : Fr lo h (newRowH h' k es cs) := a.new hl k es cs
theorem fr_put {lo : Nat} {h h' : Heap} {b : Nat} {o : Option AObj} (a : Fr lo h h') (hl : lo ≤ b) : Fr lo h (h'.put b o) := a.put hl o
section
variable {P : Program} {t el src dst : TypeId} {info : TypeInfo} {es : Nat} {h H : Heap} {v w : Value} {n : Nat} {cs : List Value} {xs ys : List (BitVec 8)} {i l hh : Nat}
theorem by_ldF (hd : P.underlying el = some (.int .u8)) (hi : P.info? el = some info) (s : By h v xs) (f : Fr h.nx h H) (hn : i < xs.length) : evLoad P el (ptrAt 1 v i) H = some (w8 (xs.getD i 0#8)) := by_ld hd hi (s.fr0 f) hn
theorem by_strF (hs : P.underlying src = some (.slice el)) (hd : P.underlying dst = some .string) (he : P.underlying el = some (.int .u8)) (s : By h v xs) (f : Fr h.nx h H) : evConvert P src dst v H = some (.string (bstr xs), H) := by_str (sd := .string) hs hd he (s.fr0 f)
end

/-! own bytes -/
abbrev OwB (lo : Nat) (h : Heap) (v : Value) (xs : List (BitVec 8)) : Prop := Ow lo 1 h v xs.length (b8 xs)
section
variable {P : Program} {t el xt el2 : TypeId} {info : TypeInfo} {z : Value} {lo : Nat} {h h' : Heap} {v w : Value} {n m : Nat} {xs ys : List (BitVec 8)} {cs : List Value}
theorem b8_all (xs : List (BitVec 8)) : (b8 xs).all (fun v => v.oneCell') = true := b8_one xs
theorem app_by (E : ElOk P t el info 1 z) (hx : P.underlying xt = some (.slice el2)) (s : OwB lo h v xs) (hw : By h w ys) (hl : lo ≤ h.nx) (hle : xs.length + ys.length ≤ 4294967296) :
    ∃ v' h', evAppend P t xt v w h = some (v', h') ∧ OwB lo h' v' (xs ++ ys) ∧ Went v v' h h' := by
  obtain ⟨v', h', h1, h2, h3⟩ := app_ow E s (new_sl (info := info) (z := z) hx E.hs hw) (by rw [hw.length]) (b8_all ys) hl hle
  exact ⟨v', h', h1, by unfold OwB; rw [List.length_append, b8_append]; exact h2, h3⟩
/-- 'append' of bytes that are 0. -/
theorem app_zero (E : ElOk P t el info 1 (w8 0#8)) {k : IntKind} (hx : P.underlying xt = some (.int k)) (s : OwB lo h v xs) (hm : m ≤ 4294967296) (hl : lo ≤ h.nx) (hle : xs.length + m ≤ 4294967296) :
    ∃ v' h', evAppend P t xt v (iv m) h = some (v', h') ∧ OwB lo h' v' (xs ++ List.replicate m 0#8) ∧ Went v v' h h' := by
  obtain ⟨v', h', h1, h2, h3⟩ := app_ow E s (ys := b8 (List.replicate m 0#8)) (new_int (info := info) (z := w8 0#8) hx hm |>.trans (by
    show some (m, zeroCellsL [w8 0#8] m) = _
    simp only [zeroCellsL, rep8])) (by rw [b8_length, List.length_replicate, Nat.mul_one]) (b8_all _) hl hle
  exact ⟨v', h', h1, by unfold OwB; rw [List.length_append, List.length_replicate, b8_append]; exact h2, h3⟩
theorem mk_own (E : ElOk P t el info 1 (w8 0#8)) {l c : Nat} (hlc : l ≤ c) (hc : c * info.bytes ≤ 281474976710656) (hc2 : c ≤ 281474976710656) :
    ∃ v h', evMakeSlice P t (iv l) (iv c) h = some (v, h') ∧ OwB h.nx h' v (List.replicate l 0#8) ∧ Fr h.nx h h' ∧ h'.nx ≤ h.nx + 1 := by
  unfold evMakeSlice
  have e1 : (0 : Int) ≤ (l : Int) ∧ (l : Int) ≤ (c : Int) ∧ (info.bytes : Int) * (c : Int) ≤ 2 ^ 48 ∧ (c : Int) ≤ 2 ^ 48 ∧ (w8 0#8).cells.size = info.size ∧ 0 < info.size := by
    refine ⟨by omega, by omega, ?_, by omega, E.hc.trans E.hs.symm, by rw [E.hs]; omega⟩
    have : (info.bytes : Int) * (c : Int) = ((c * info.bytes : Nat) : Int) := by rw [Nat.mul_comm]; simp
    rw [this]; omega
  simp only [E.hd, E.hi, E.hz, evInt, iv]
  rw [if_pos e1]
  by_cases h0 : c = 0
  · subst h0
    have : l = 0 := by omega
    subst this
    exact ⟨_, _, if_pos rfl, .empty, .refl _ _, by omega⟩
  · rw [if_neg (by omega)]
    refine ⟨_, _, rfl, ?_, Fr.new (.refl _ _) (Nat.le_refl _) _ _ _, by rw [nx_new]; omega⟩
    simp only [Int.toNat_natCast]
    unfold OwB
    rw [List.length_replicate, E.hs]
    refine .mk (k := .rw) (cs' := List.replicate c (w8 0#8)) (Nat.le_refl _) (by rw [nx_new]; omega) (by simp) (by rw [obj_new, if_pos rfl]; rfl) hlc (fun _ => by simp) (fun h => by cases h) ?_
    simp only [b8, List.take_replicate, List.map_replicate]
    congr 1; omega
end

/-! the same, as steps of a run -/
section
variable {P : Program} {R : Nat} {call : Value → Phi} {ar : Option Nat} {e : Env} {h h' : Heap} {Q : Post} {all : Array Oper} {l : List Oper} {ty : TypeId} {pos : String} {af : Array Edge}
variable {t el xt el2 : TypeId} {info : TypeInfo} {z : Value} {lo : Nat} {xs ys : List (BitVec 8)} {a b c : Operand} {d : Nat}
theorem R_app (E : ElOk P t el info 1 z) (hx : P.underlying xt = some (.slice el2)) {v w : Value} (ha : ev e a = v) (hb : ev e b = w) (s : OwB lo h v xs) (hw : By h w ys) (hl : lo ≤ h.nx) (hle : xs.length + ys.length ≤ 4294967296)
    (k : ∀ v' h', OwB lo h' v' (xs ++ ys) → Went v v' h h' → W (evOps call P all l (upd e d v') h') Q) :
    W (evOps call P all (⟨some d, .call ⟨.builtin .append, #[a, b], #[t, xt]⟩, ty, pos, af, none⟩ :: l) e h) Q := by
  subst ha hb
  obtain ⟨v', h', h1, h2, h3⟩ := app_by E hx s hw hl hle
  refine R_op (v := v') (h' := h') ?_ (k v' h' h2 h3)
  rw [op_builtin]
  show okVH (evAppend P t xt (ev e a) (ev e b) h) = _
  rw [h1]; rfl
theorem R_app0 (E : ElOk P t el info 1 (w8 0#8)) {k : IntKind} (hx : P.underlying xt = some (.int k)) {v : Value} {m : Nat} (ha : ev e a = v) (hb : ev e b = iv m) (s : OwB lo h v xs) (hl : lo ≤ h.nx) (hm : m ≤ 4294967296) (hle : xs.length + m ≤ 4294967296)
    (k : ∀ v' h', OwB lo h' v' (xs ++ List.replicate m 0#8) → Went v v' h h' → W (evOps call P all l (upd e d v') h') Q) :
    W (evOps call P all (⟨some d, .call ⟨.builtin .append, #[a, b], #[t, xt]⟩, ty, pos, af, none⟩ :: l) e h) Q := by
  subst ha
  obtain ⟨v', h', h1, h2, h3⟩ := app_zero E hx s hm hl hle
  refine R_op (v := v') (h' := h') ?_ (k v' h' h2 h3)
  rw [op_builtin]
  show okVH (evAppend P t xt (ev e a) (ev e b) h) = _
  rw [hb, h1]; rfl
theorem R_mk (E : ElOk P t el info 1 (w8 0#8)) {n m : Nat} (ha : ev e a = iv n) (hb : ev e b = iv m) (hlc : n ≤ m) (hc : m ≤ 1099511627776) (hby : info.bytes = 1)
    (k : ∀ v' h', OwB h.nx h' v' (List.replicate n 0#8) → Fr h.nx h h' → h'.nx ≤ h.nx + 1 → W (evOps call P all l (upd e d v') h') Q) :
    W (evOps call P all (⟨some d, .makeSlice t a b, ty, pos, af, none⟩ :: l) e h) Q := by
  obtain ⟨v', h', h1, h2, h3, h4⟩ := mk_own (h := h) E hlc (by rw [hby]; omega) (by omega)
  refine R_op (v := v') (h' := h') ?_ (k v' h' h2 h3 h4)
  rw [op_makeSlice, ha, hb, h1]; rfl
end
end Go.Proofs.Ytfehhihllenjiaa
/- Slices that are written out; constants below 0. -/
set_option linter.all false
namespace Go.Proofs.Ytfehhihllenjiaa
section
variable {P : Program} {t el : TypeId} {info : TypeInfo} {z a b c d e : Value} {h : Heap}
theorem toList_one {z : Value} (hc : z.cells.size = 1) : ∃ x, z.cells.toList = [x] := by
  have : z.cells.toList.length = 1 := by simpa using hc
  match h : z.cells.toList with
  | [x] => exact ⟨x, rfl⟩
  | [] => simp [h] at this
  | x :: y :: l => simp [h] at this
theorem fill_one {place : Nat → Option (Nat × Nat)} {cells : List Value} {i : Nat} {rest : List (Nat × Value)} (hp : place i = some (i, 1)) (hv : a.cells = #[a]) (hi : i < cells.length) : fillL place cells ((i, a) :: rest) = fillL place (cells.set i a) rest := by
  rw [fillL]
  simp only [hp, hv]
  have : ¬ ((#[a] : Array Value).size ≠ 1 ∨ i + (#[a] : Array Value).size > cells.length) := by simp; omega
  rw [if_neg this]; rfl
theorem bs_n (E : ElOk P t el info 1 z) {n : Nat} {parts : List (Nat × Value)} {l : List Value} (h0 : 0 < n) (hn : n ≤ 64)
    (hp : ∀ x, fillL (fun i => some (i, 1)) (List.replicate n x) parts = some l) : evBuildSlice P t n parts h = some (.slice (some ⟨h.nx, 0, none⟩) n n, newRowH h .rw 1 l) := by
  obtain ⟨x, hx⟩ := toList_one E.hc
  unfold evBuildSlice
  simp only [E.hd, E.hi, E.hz, E.hs, E.hc, hx, zeroCellsL, Nat.mul_one]
  rw [if_neg (by omega), if_pos ⟨trivial, by omega, by omega⟩]
  rw [hp]
theorem bs_0 (E : ElOk P t el info 1 z) : evBuildSlice P t 0 [] h = some (emptyS, h) := by
  unfold evBuildSlice
  simp only [E.hd, E.hi, E.hz]
  rfl
theorem bs_1 (E : ElOk P t el info 1 z) (ha : a.cells = #[a]) : evBuildSlice P t 1 [(0, a)] h = some (.slice (some ⟨h.nx, 0, none⟩) 1 1, newRowH h .rw 1 [a]) :=
  bs_n E (by omega) (by omega) fun x => by rw [fill_one rfl ha (by simp)]; rfl
theorem bs_2 (E : ElOk P t el info 1 z) (ha : a.cells = #[a]) (hb : b.cells = #[b]) : evBuildSlice P t 2 [(0, a), (1, b)] h = some (.slice (some ⟨h.nx, 0, none⟩) 2 2, newRowH h .rw 1 [a, b]) :=
  bs_n E (by omega) (by omega) fun x => by rw [fill_one rfl ha (by simp), fill_one rfl hb (by simp)]; rfl
theorem bs_4 (E : ElOk P t el info 1 z) (ha : a.cells = #[a]) (hb : b.cells = #[b]) (hc : c.cells = #[c]) (hd : d.cells = #[d]) : evBuildSlice P t 4 [(0, a), (1, b), (2, c), (3, d)] h = some (.slice (some ⟨h.nx, 0, none⟩) 4 4, newRowH h .rw 1 [a, b, c, d]) :=
  bs_n E (by omega) (by omega) fun x => by rw [fill_one rfl ha (by simp), fill_one rfl hb (by simp), fill_one rfl hc (by simp), fill_one rfl hd (by simp)]; rfl
theorem fa_eq {fs : Array Field} {fd : Field} {f b i off n : Nat} (hd : P.underlying t = some (.struct fs)) (hf : fs[f]? = some fd) (hi : P.info? fd.type = some info) (ho : fd.offset = off) (hs : info.size = n) (h0 : (n == 0) = false) :
    evFieldAddr P t (.pointer (some ⟨b, i, none⟩)) f = some (.pointer (some ⟨b, i + off, none⟩)) := by
  subst ho
  unfold evFieldAddr
  simp only [hd, hf, hi]
  rw [if_neg (by rw [hs]; simpa using h0)]
theorem by_row {h : Heap} {b : Nat} {k : Kind} {xs : List (BitVec 8)} {n c : Nat} (hb : b < h.nx) (ho : h.obj b = some (.row k 1 (b8 xs))) (hn : n ≤ c) (hl : xs.length = n) : By h (.slice (some ⟨b, 0, none⟩) n c) xs :=
  .mk hb ho (fun _ => rfl) hn (by omega) (by rw [List.drop_zero, ← hl, List.take_length])
end
/-- An int below nothing. -/
def nv (n : Nat) : Value := .int .i64 (-(n : Int))
theorem un_neg_iv (n : Nat) (hn : n < 9223372036854775808) : evUn .neg (iv n) = some (nv n) := by
  show some (Value.int .i64 (IntKind.i64.wrap (0 - (n : Int)))) = _
  have : IntKind.i64.wrap (0 - (n : Int)) = -(n : Int) := by
    have e1 : (2 : Int) ^ IntKind.i64.bits = 18446744073709551616 := by decide
    have e2 : (2 : Int) ^ (IntKind.i64.bits - 1) = 9223372036854775808 := by decide
    unfold IntKind.wrap
    simp only [e1, e2, show IntKind.i64.signed = true from rfl, Bool.true_and, decide_eq_true_eq]
    split <;> omega
  rw [this]; rfl
theorem fr_refl {lo : Nat} {h : Heap} : Fr lo h h := .refl lo h
def RF := And.intro @fr_new (And.intro @fr_put (And.intro @fr_refl (And.intro @Nat.le_refl (And.intro @Nat.le_add_right (And.intro @nx_new (And.intro @nx_put @nx_assoc))))))
theorem bi_min {P : Program} {ts : List TypeId} {a b : Nat} {h : Heap} : evBuiltin P .min ts [iv a, iv b] h = some (iv (min a b), h) := by
  have e : evMin false [iv a, iv b] = some (iv (min a b)) := by
    show some (Value.int .i64 (if (b : Int) < a then (b : Int) else a)) = _
    by_cases hb : b < a
    · rw [if_pos (by omega), Nat.min_eq_right (by omega)]; rfl
    · rw [if_neg (by omega), Nat.min_eq_left (by omega)]; rfl
  unfold evBuiltin
  simp only [e, Option.map_some]
theorem Ow.new {lo es : Nat} {h : Heap} {v : Value} {n : Nat} {cs : List Value} (s : Ow lo es h v n cs) {k : Kind} {es' : Nat} {cs' : List Value} : Ow lo es (newRowH h k es' cs') v n cs :=
  s.keep (by rw [nx_new]; omega) fun r hr => by rw [obj_new, if_neg]; have := (s.rows r hr).2; omega
theorem Ow.putR {lo es : Nat} {h : Heap} {v : Value} {n : Nat} {cs : List Value} (s : Ow lo es h v n cs) {b : Nat} {o : Option AObj} (hb : b ∉ rowsOfV v) : Ow lo es (h.put b o) v n cs :=
  s.keep (Nat.le_refl _) fun r hr => by rw [obj_put, if_neg]; intro h; subst h; exact hb hr
theorem Went.not {v v' : Value} {h h' : Heap} (w : Went v v' h h') {r : Nat} (h1 : r ∉ rowsOfV v) (h2 : r < h.nx) : r ∉ rowsOfV v' := fun hr => by
  rcases w.rows r hr with h | h
  · exact h1 h
  · omega
theorem one_by {h : Heap} {x : BitVec 8} : By (newRowH h .rw 1 [w8 x]) (.slice (some ⟨h.nx, 0, none⟩) 1 1) [x] :=
  by_row (xs := [x]) (k := .rw) (by rw [nx_new]; omega) (by rw [obj_new, if_pos rfl]; rfl) (Nat.le_refl _) rfl
theorem N_exit {i : Nat} {A : Prop} (h : A) : X.exit i ≠ .normal ∧ A := ⟨(nomatch ·), h⟩
theorem N_ret {A : Prop} (h : A) : X.ret ≠ .normal ∧ A := ⟨(nomatch ·), h⟩
end Go.Proofs.Ytfehhihllenjiaa
/- Calls and slices in runs, in regions that draw too. -/
set_option linter.all false
namespace Go.Proofs.Ytfehhihllenjiaa
section
variable {P : Program} {R : Nat} {call : Value → Phi} {ar : Option Nat} {e : Env} {h h' : Heap} {Q : Post} {all : Array Oper} {l : List Oper} {ty : TypeId} {pos : String} {af : Array Edge} {F : List Nat} {S : Nat → Prop} {i : Nat}
variable {t el xt el2 : TypeId} {info : TypeInfo} {z : Value} {lo : Nat} {xs ys : List (BitVec 8)} {a b c : Operand} {d : Nat}
theorem call_at {f : FuncId} {args : Array Operand} {ts : Array TypeId} : evO call P e h (.call ⟨.value (.func f), args, ts⟩) = call (.func (.func f) #[] #[]) (args.toList.map (ev e)) h := op_call
theorem R_fn {f : FuncId} {args : Array Operand} {ts : Array TypeId} {vals : List Value} {p : Value → Heap → Prop} (ha : args.toList.map (ev e) = vals) (hv : ∃ v h', call (.func (.func f) #[] #[]) vals h = some (.ok v, h') ∧ p v h')
    (hw : ∀ v h', p v h' → W (evOps call P all l (upd e d v) h') Q) : W (evOps call P all (⟨some d, .call ⟨.value (.func f), args, ts⟩, ty, pos, af, none⟩ :: l) e h) Q := by
  subst ha
  exact R_call (by rw [call_at]; exact hv) hw
theorem D_fn {f : FuncId} {args : Array Operand} {ts : Array TypeId} {vals : List Value} {p : Value → Heap → Prop} (ha : args.toList.map (ev e) = vals) (hv : ∃ v h', call (.func (.func f) #[] #[]) vals h = some (.ok v, h') ∧ p v h')
    (hi : isoOf P f = false) (hfr : ∀ v h', p v h' → F.contains i = true → ∀ r, S r → r < h.nx → h'.obj r = h.obj r)
    (hw : ∀ v h', p v h' → WD call P all F S (i + 1) l (upd e d v) h' Q) : WD call P all F S i (⟨some d, .call ⟨.value (.func f), args, ts⟩, ty, pos, af, none⟩ :: l) e h Q := by
  subst ha
  exact D_call (by rw [call_at]; exact hv) (fun v h' hp hF => chk_call hi (hfr v h' hp hF)) hw
/-- A walk of plain steps inside a region that draws, where nothing is flagged any more. -/
theorem chk_read {op : Op} (hc : clsOf (isoOf P) op = .read) : chk (isoOf P) (fun _ => True) e h h op := by
  unfold chk; rw [hc]; exact ⟨rfl, fun _ _ => trivial⟩
theorem chk_pure {op : Op} (hc : clsOf (isoOf P) op = .pure) : chk (isoOf P) S e h h' op := by
  unfold chk; rw [hc]; exact trivial
theorem chk_alloc {op : Op} (hc : clsOf (isoOf P) op = .alloc) : chk (isoOf P) S e h h' op := by
  unfold chk; rw [hc]; exact trivial
theorem chk_iso {f : FuncId} {args : Array Operand} {ts : Array TypeId} (hi : isoOf P f = true) : chk (isoOf P) S e h h' (.call ⟨.value (.func f), args, ts⟩) := by
  simp only [chk, clsOf, hi]
  exact trivial
end
end Go.Proofs.Ytfehhihllenjiaa
