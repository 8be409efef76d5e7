/- Slices, said by what they hold. -/
import Derived.Test.YtfehhihllenjiaaEq
import Derived.Laws.Strings
set_option linter.all false
namespace Go.Proofs.Ytfehhihllenjiaa

theorem nx_assoc {h : Heap} {a b : Nat} : h.nx + a + b = h.nx + (a + b) := Nat.add_assoc _ _ _
def Fr (lo : Nat) (h h' : Heap) : Prop := h.nx ≤ h'.nx ∧ ∀ r, r < lo → h'.obj r = h.obj r
theorem Fr.refl (lo : Nat) (h : Heap) : Fr lo h h := ⟨Nat.le_refl _, fun _ _ => rfl⟩
theorem Fr.trans {lo : Nat} {h h1 h2 : Heap} (a : Fr lo h h1) (b : Fr lo h1 h2) : Fr lo h h2 := ⟨Nat.le_trans a.1 b.1, fun r hr => (b.2 r hr).trans (a.2 r hr)⟩
theorem Fr.le {lo lo' : Nat} {h h' : Heap} (a : Fr lo h h') (hl : lo' ≤ lo) : Fr lo' h h' := ⟨a.1, fun r hr => a.2 r (by omega)⟩
theorem Fr.new {lo : Nat} {h h' : Heap} (a : Fr lo h h') (hl : lo ≤ h'.nx) (k : Kind) (es : Nat) (cs : List Value) : Fr lo h (newRowH h' k es cs) :=
  ⟨by have := a.1; rw [nx_new]; omega, fun r hr => by rw [obj_new, if_neg (by omega)]; exact a.2 r hr⟩
theorem Fr.put {lo : Nat} {h h' : Heap} (a : Fr lo h h') {b : Nat} (hl : lo ≤ b) (o : Option AObj) : Fr lo h (h'.put b o) :=
  ⟨a.1, fun r hr => by rw [obj_put, if_neg (by omega)]; exact a.2 r hr⟩

/-- A slice of elements of 'es' cells each. -/
inductive Sl (es : Nat) (h : Heap) : Value → Nat → List Value → Prop
  | nil : Sl es h (.slice none 0 0) 0 []
  | empty : Sl es h emptyS 0 []
  | any : Sl es h anyS 0 []
  | row {b i n c : Nat} {k : Kind} {es' : Nat} {cs' : List Value} (hb : b < h.nx) (ho : h.obj b = some (.row k es' cs')) (hes : k = .grow → es' = es) (hn : n ≤ c) (hl : i + n * es ≤ cs'.length) :
      Sl es h (.slice (some ⟨b, i, none⟩) n c) n ((cs'.drop i).take (n * es))
theorem Sl.mk {es : Nat} {h : Heap} {b i n c : Nat} {k : Kind} {es' : Nat} {cs' cs : List Value} (hb : b < h.nx) (ho : h.obj b = some (.row k es' cs')) (hes : k = .grow → es' = es) (hn : n ≤ c) (hl : i + n * es ≤ cs'.length)
    (hc : (cs'.drop i).take (n * es) = cs) : Sl es h (.slice (some ⟨b, i, none⟩) n c) n cs := by
  subst hc; exact .row hb ho hes hn hl
section
variable {es : Nat} {h h' : Heap} {v : Value} {n : Nat} {cs : List Value}
theorem Sl.length (s : Sl es h v n cs) : cs.length = n * es := by
  cases s with
  | nil => simp
  | empty => simp
  | any => simp
  | row hb ho hes hn hl => simp; omega
theorem Sl.keep (s : Sl es h v n cs) (hx : h.nx ≤ h'.nx) (hk : ∀ r ∈ rowsOfV v, h'.obj r = h.obj r) : Sl es h' v n cs := by
  cases s with
  | nil => exact .nil
  | empty => exact .empty
  | any => exact .any
  | row hb ho hes hn hl => exact .row (by omega) ((hk _ (by simp [rowsOfV])).trans ho) hes hn hl
theorem Sl.lt (s : Sl es h v n cs) : ∀ r ∈ rowsOfV v, r < h.nx := by
  cases s with
  | nil => intro r hr; simp [rowsOfV] at hr
  | empty => intro r hr; simp [rowsOfV, emptyS] at hr
  | any => intro r hr; simp [rowsOfV, anyS] at hr
  | row hb ho hes hn hl => intro r hr; simp [rowsOfV] at hr; omega
theorem Sl.fr {lo : Nat} (s : Sl es h v n cs) (f : Fr lo h h') (hl : ∀ r ∈ rowsOfV v, r < lo) : Sl es h' v n cs := s.keep f.1 fun r hr => f.2 r (hl r hr)
theorem Sl.fr0 (s : Sl es h v n cs) (f : Fr h.nx h h') : Sl es h' v n cs := s.fr f s.lt
end

def ptrAt (es : Nat) (v : Value) (i : Nat) : Value :=
  match v with
  | .slice (some ⟨b, o, none⟩) _ _ => .pointer (some ⟨b, o + i * es, none⟩)
  | _ => undef
def subS (es l hh : Nat) (mx : Option Nat) (v : Value) : Value :=
  match v with
  | .slice (some ⟨b, i, none⟩) n c => if mx.getD c = l then (if mx.isSome then emptyS else anyS) else .slice (some ⟨b, i + l * es, none⟩) (hh - l) (mx.getD c - l)
  | .slice (some ⟨_, _, some 1⟩) _ _ => if mx.isSome then emptyS else anyS
  | v => v
theorem nil_at {es : Nat} {h : Heap} {v : Value} {n : Nat} {cs : List Value} {i : Nat} (s : Sl es h v n cs) (hi : i < n) : evNil (ptrAt es v i) = some (ptrAt es v i) := by
  cases s with
  | nil => omega
  | empty => omega
  | any => omega
  | row => rfl
section
variable {P : Program} {t el : TypeId} {info : TypeInfo} {es : Nat} {h h' : Heap} {v : Value} {n : Nat} {cs : List Value} {i l hh : Nat}
theorem sl_len (hd : P.underlying t = some (.slice el)) (s : Sl es h v n cs) : evLenB P t v = some (iv n) := by
  cases s with
  | nil => exact len_sl hd
  | empty => exact len_sl hd
  | any => exact len_sl hd
  | row => exact len_sl hd
theorem sl_ia (hd : P.underlying t = some (.slice el)) (hi : P.info? el = some info) (hs : info.size = es) (s : Sl es h v n cs) (hn : i < n) : evIndexAddr P t v (iv i) = some (ptrAt es v i) := by
  cases s with
  | nil => omega
  | empty => omega
  | any => omega
  | row => exact ia_sl hd hi hs hn
theorem sl_ld {d : TypeDesc} (hd : P.underlying el = some d) (hi : P.info? el = some info) (hg : isAggD d = false) (s : Sl 1 h v n cs) (hn : i < n) : evLoad P el (ptrAt 1 v i) h = cs[i]? := by
  cases s with
  | nil => omega
  | empty => omega
  | any => omega
  | row hb ho hes hn' hl =>
    have := ld_scalar (P := P) (h := h) (b := by assumption) (i := by assumption) hd hi hg
    show evLoad P el (.pointer (some ⟨_, _, none⟩)) h = _
    rw [ld_scalar hd hi hg, ho, cellV_row, List.getElem?_take, if_pos (by omega), List.getElem?_drop]
    simp
theorem sl_ldg {d : TypeDesc} (hd : P.underlying el = some d) (hi : P.info? el = some info) (hg : isAggD d = true) (hs : info.size = es) (s : Sl es h v n cs) (hn : i < n) : evLoad P el (ptrAt es v i) h = some (.agg ((cs.drop (i * es)).take es).toArray) := by
  have key : ∀ n, i < n → i * es + es ≤ n * es := fun n hn => by
    have := Nat.mul_le_mul_right es (show i + 1 ≤ n by omega)
    rw [Nat.add_mul] at this; omega
  cases s with
  | nil => omega
  | empty => omega
  | any => omega
  | row hb ho hes hn' hl =>
    have hk := key _ hn
    show evLoad P el (.pointer (some ⟨_, _, none⟩)) h = _
    rw [ld_agg hd hi hg hs, ho, cutV_row, if_pos (by omega), List.drop_take, List.take_take, List.drop_drop, Nat.min_eq_left (by omega)]
theorem bounds_eq {len cap l hh m : Nat} {lo hi mx : Option Value} (h0 : evBounds0 len cap lo hi mx = some (l, hh, m)) (h1 : l ≤ hh) (h2 : hh ≤ m) : evBounds len cap lo hi mx = some (l, hh, m) := by
  unfold evBounds; rw [h0]; exact if_pos ⟨h1, h2⟩
theorem sl_sub0 {lo hi mx : Option Value} {m : Option Nat} (hd : P.underlying t = some (.slice el)) (hin : P.info? el = some info) (hs : info.size = es) (s : Sl es h v n cs) (hmx : mx.isSome = m.isSome)
    (hb : ∀ c, n ≤ c → evBounds n c lo hi mx = some (l, hh, m.getD c)) (hh' : hh ≤ n) : evSlice P t v lo hi mx h = some (subS es l hh m v) := by
  cases s with
  | nil =>
    have hb0 := hb 0 (Nat.le_refl _)
    unfold evSlice; rw [hd]; simp only [hin, hb0]; rfl
  | empty =>
    have hb0 := hb 0 (Nat.le_refl _)
    unfold evSlice emptyS; rw [hd]; simp only [hin, hb0]; rfl
  | any =>
    have hb0 := hb 0 (Nat.le_refl _)
    unfold evSlice anyS; rw [hd]; simp only [hin, hb0, subS, hmx]; rfl
  | row hbn ho hes hn hl =>
    have hb0 := hb _ hn
    unfold evSlice; rw [hd]
    simp only [hin, ho, hb0, subS, hmx, hs]
    split
    · split <;> rfl
    · first | rfl | rw [if_pos hes]
theorem sl_slh (hd : P.underlying t = some (.slice el)) (hin : P.info? el = some info) (hs : info.size = es) (s : Sl es h v n cs) (h1 : l ≤ hh) (h2 : hh ≤ n) :
    evSlice P t v (some (iv l)) (some (iv hh)) none h = some (subS es l hh none v) := by
  refine sl_sub0 hd hin hs s rfl (fun c hc => bounds_eq ?_ h1 (by simp; omega)) h2
  unfold evBounds0; simp only [bnd_iv (show hh ≤ c by omega), bnd_iv h1, Option.getD_none]
theorem sl_h (hd : P.underlying t = some (.slice el)) (hin : P.info? el = some info) (hs : info.size = es) (s : Sl es h v n cs) (h2 : hh ≤ n) :
    evSlice P t v none (some (iv hh)) none h = some (subS es 0 hh none v) := by
  refine sl_sub0 hd hin hs s rfl (fun c hc => bounds_eq ?_ (Nat.zero_le _) (by simp; omega)) h2
  unfold evBounds0; simp only [bnd_iv (show hh ≤ c by omega), Option.getD_none]
theorem sl_l (hd : P.underlying t = some (.slice el)) (hin : P.info? el = some info) (hs : info.size = es) (s : Sl es h v n cs) (h1 : l ≤ n) :
    evSlice P t v (some (iv l)) none none h = some (subS es l n none v) := by
  refine sl_sub0 hd hin hs s rfl (fun c hc => bounds_eq ?_ h1 (by simp; omega)) (Nat.le_refl _)
  unfold evBounds0; simp only [bnd_iv h1, Option.getD_none]
theorem sl_n (hd : P.underlying t = some (.slice el)) (hin : P.info? el = some info) (hs : info.size = es) (s : Sl es h v n cs) :
    evSlice P t v none none none h = some (subS es 0 n none v) := by
  refine sl_sub0 hd hin hs s rfl (fun c hc => bounds_eq ?_ (Nat.zero_le _) (by simp; omega)) (Nat.le_refl _)
  unfold evBounds0; simp only [Option.getD_none]
theorem sl_hm (hd : P.underlying t = some (.slice el)) (hin : P.info? el = some info) (hs : info.size = es) (s : Sl es h v n cs) (h2 : hh ≤ n) {m : Nat} (h3 : hh ≤ m) (h4 : m ≤ n) :
    evSlice P t v none (some (iv hh)) (some (iv m)) h = some (subS es 0 hh (some m) v) := by
  refine sl_sub0 hd hin hs s rfl (fun c hc => bounds_eq ?_ (Nat.zero_le _) (by simp; omega)) h2
  unfold evBounds0; simp only [bnd_iv (show m ≤ c by omega), bnd_iv h3, Option.getD_some]
theorem sl_lhm (hd : P.underlying t = some (.slice el)) (hin : P.info? el = some info) (hs : info.size = es) (s : Sl es h v n cs) (h1 : l ≤ hh) (h2 : hh ≤ n) {m : Nat} (h3 : hh ≤ m) (h4 : m ≤ n) :
    evSlice P t v (some (iv l)) (some (iv hh)) (some (iv m)) h = some (subS es l hh (some m) v) := by
  refine sl_sub0 hd hin hs s rfl (fun c hc => bounds_eq ?_ h1 (by simp; omega)) h2
  unfold evBounds0; simp only [bnd_iv (show m ≤ c by omega), bnd_iv h3, bnd_iv h1, Option.getD_some]
theorem Sl.sub {mx : Option Nat} (s : Sl es h v n cs) (h1 : l ≤ hh) (h2 : hh ≤ n) (h3 : ∀ m, mx = some m → hh ≤ m) : Sl es h (subS es l hh mx v) (hh - l) ((cs.drop (l * es)).take ((hh - l) * es)) := by
  have z : ∀ {hh l : Nat}, l ≤ hh → hh ≤ 0 → hh - l = 0 := by intros; omega
  cases s with
  | nil =>
    rw [z h1 h2]; simp only [List.drop_nil, List.take_nil]; exact .nil
  | empty =>
    rw [z h1 h2]; simp only [List.drop_nil, List.take_nil]; exact .empty
  | any =>
    rw [z h1 h2]; simp only [List.drop_nil, List.take_nil]
    show Sl es h (if mx.isSome then emptyS else anyS) 0 []
    split
    · exact .empty
    · exact .any
  | row hb ho hes hn hl =>
    rename_i b i c k es' cs'
    have hm : hh ≤ mx.getD c := by
      cases mx with
      | none => simp; omega
      | some m => simpa using h3 m rfl
    have e1 : (hh - l) * es + l * es = hh * es := by rw [← Nat.add_mul]; congr 1; omega
    have e2 : hh * es ≤ n * es := Nat.mul_le_mul_right _ h2
    show Sl es h (if mx.getD c = l then (if mx.isSome then emptyS else anyS) else .slice (some ⟨b, i + l * es, none⟩) (hh - l) (mx.getD c - l)) (hh - l) _
    split
    · rename_i he
      have : hh - l = 0 := by omega
      rw [this]; simp only [Nat.zero_mul, List.take_zero]
      split
      · exact .empty
      · exact .any
    · refine .mk hb ho hes (by omega) (by omega) ?_
      rw [List.drop_take, List.take_take, List.drop_drop, Nat.min_eq_left (by omega)]
theorem Sl.sub_rows {mx : Option Nat} : ∀ r ∈ rowsOfV (subS es l hh mx v), r ∈ rowsOfV v := by
  intro r hr
  unfold subS at hr
  split at hr
  · split at hr
    · split at hr <;> simp [rowsOfV, emptyS, anyS] at hr
    · simpa [rowsOfV] using hr
  · split at hr <;> simp [rowsOfV, emptyS, anyS] at hr
  · exact hr
theorem sl_elems (s : Sl es h v n cs) {m : Nat} (hm : m ≤ n) : evElems es m v h = some (cs.take (m * es)) := by
  cases s with
  | nil =>
    have : m = 0 := by omega
    subst this; simp [evElems]
  | empty =>
    have : m = 0 := by omega
    subst this; simp [evElems, emptyS]
  | any =>
    have : m = 0 := by omega
    subst this; simp [evElems, anyS]
  | row hb ho hes hn hl =>
    have e2 : m * es ≤ n * es := Nat.mul_le_mul_right _ hm
    simp only [evElems, ho]
    rw [if_pos (by omega), List.take_take, Nat.min_eq_left e2]
theorem sl_toArr {len : Nat} (hd : P.underlying t = some (.array len el)) (s : Sl es h v n cs) (h0 : 0 < len) (h1 : len ≤ n) : evToArr P t v = some (ptrAt es v 0) := by
  cases s with
  | nil => omega
  | empty => omega
  | any => omega
  | row =>
    simp only [evToArr, hd, ptrAt]
    rw [if_pos h1]; simp
theorem sl_ldarr {len : Nat} (hd : P.underlying t = some (.array len el)) (hi : P.info? t = some info) (hs : info.size = len) (s : Sl 1 h v n cs) (h0 : 0 < len) (h1 : len ≤ n) : evLoad P t (ptrAt 1 v 0) h = some (.agg ⟨cs.take len⟩) := by
  cases s with
  | nil => omega
  | empty => omega
  | any => omega
  | row hb ho hes hn hl =>
    show evLoad P t (.pointer (some ⟨_, _, none⟩)) h = _
    rw [ld_agg hd hi rfl hs, ho, cutV_row, if_pos (by omega), List.take_take, Nat.min_eq_left (by omega)]
    simp
end

theorem sl_shape {es : Nat} {h : Heap} {v : Value} {n : Nat} {cs : List Value} (s : Sl es h v n cs) : ∃ a c, v = .slice a n c := by
  cases s <;> exact ⟨_, _, rfl⟩
theorem sl_evLen {es : Nat} {h : Heap} {v : Value} {n : Nat} {cs : List Value} (s : Sl es h v n cs) : evLen v = some n := by cases s <;> rfl

/-! bytes -/
abbrev By (h : Heap) (v : Value) (xs : List (BitVec 8)) : Prop := Sl 1 h v xs.length (b8 xs)
theorem b8_length (xs : List (BitVec 8)) : (b8 xs).length = xs.length := by simp [b8]
theorem b8_append (xs ys : List (BitVec 8)) : b8 (xs ++ ys) = b8 xs ++ b8 ys := by simp [b8]
theorem b8_take (xs : List (BitVec 8)) (n : Nat) : b8 (xs.take n) = (b8 xs).take n := by simp [b8, List.map_take]
theorem b8_drop (xs : List (BitVec 8)) (n : Nat) : b8 (xs.drop n) = (b8 xs).drop n := by simp [b8, List.map_drop]
theorem b8_one (xs : List (BitVec 8)) : (b8 xs).all (fun v => v.oneCell') = true := by simp [b8, w8]; intros; rfl
theorem b8_nil : b8 [] = [] := rfl
theorem b8_cons (x : BitVec 8) (xs : List (BitVec 8)) : b8 (x :: xs) = w8 x :: b8 xs := rfl
theorem w8_inj {x y : BitVec 8} (h : w8 x = w8 y) : x = y := by
  simp only [w8, Value.int.injEq, true_and] at h
  exact BitVec.eq_of_toNat_eq (by omega)
theorem b8_inj {xs ys : List (BitVec 8)} (h : b8 xs = b8 ys) : xs = ys := (List.map_inj_right (f := w8) fun _ _ h => w8_inj h).1 h
theorem By.mk {h : Heap} {b i c : Nat} {k : Kind} {es' : Nat} {ys xs : List (BitVec 8)} {n : Nat} (hb : b < h.nx) (ho : h.obj b = some (.row k es' (b8 ys))) (hes : k = .grow → es' = 1) (hn : n ≤ c) (hl : i + n ≤ ys.length) (hx : (ys.drop i).take n = xs) :
    By h (.slice (some ⟨b, i, none⟩) n c) xs := by
  have hlen : xs.length = n := by subst hx; simp; omega
  unfold By
  rw [hlen]
  exact Sl.mk hb ho hes hn (by rw [b8_length]; omega) (by rw [Nat.mul_one, ← b8_drop, ← b8_take, hx])
section
variable {P : Program} {t el src dst : TypeId} {info : TypeInfo} {h h' : Heap} {v w : Value} {xs ys : List (BitVec 8)} {i l hh : Nat}
theorem by_nil : By h (.slice none 0 0) [] := .nil
theorem by_empty : By h emptyS [] := .empty
theorem by_any : By h anyS [] := .any
theorem by_ld (hd : P.underlying el = some (.int .u8)) (hi : P.info? el = some info) (s : By h v xs) (hn : i < xs.length) : evLoad P el (ptrAt 1 v i) h = some (w8 (xs.getD i 0#8)) := by
  rw [sl_ld hd hi rfl s hn, idx8 hn]
theorem By.sub {mx : Option Nat} (s : By h v xs) (h1 : l ≤ hh) (h2 : hh ≤ xs.length) (h3 : ∀ m, mx = some m → hh ≤ m) : By h (subS 1 l hh mx v) ((xs.drop l).take (hh - l)) := by
  have := Sl.sub (mx := mx) s h1 h2 h3
  unfold By
  rw [b8_take, b8_drop, List.length_take, List.length_drop, Nat.min_eq_left (by omega)]
  simpa using this
theorem By.subh {mx : Option Nat} (s : By h v xs) (h2 : hh ≤ xs.length) (h3 : ∀ m, mx = some m → hh ≤ m) : By h (subS 1 0 hh mx v) (xs.take hh) := by
  have := By.sub (mx := mx) s (Nat.zero_le _) h2 h3
  simpa using this
theorem By.subl (s : By h v xs) (h2 : l ≤ xs.length) : By h (subS 1 l xs.length none v) (xs.drop l) := by
  have := By.sub (mx := none) s h2 (Nat.le_refl _) (fun m hm => nomatch hm)
  have e : (xs.drop l).take (xs.length - l) = xs.drop l := List.take_of_length_le (by simp)
  rwa [e] at this
theorem by_str {sd : TypeDesc} (hs : P.underlying src = some (.slice el)) (hd : P.underlying dst = some .string) (he : P.underlying el = some (.int .u8)) (s : By h v xs) : evConvert P src dst v h = some (.string (bstr xs), h) := by
  have h1 := sl_elems s (Nat.le_refl _)
  have e : (b8 xs).take (xs.length * 1) = b8 xs := List.take_of_length_le (by simp [b8])
  rw [e] at h1
  have main : ∀ a n c, v = .slice a n c → n = xs.length → evConvert P src dst v h = some (.string (bstr xs), h) := by
    intro a n c hv hn
    subst hv hn
    unfold evConvert
    rw [hs, hd]
    simp only [he, h1, bytesOf_b8]
    rfl
  obtain ⟨a, c, hv⟩ := sl_shape s
  exact main _ _ _ hv rfl
theorem bstr_toList (xs : List (BitVec 8)) : (bstr xs).toList = xs.map UInt8.ofBitVec := by
  rw [ByteArray.toList_eq]; rfl
theorem ofBitVec_inj {a b : BitVec 8} (h : UInt8.ofBitVec a = UInt8.ofBitVec b) : a = b := by
  have := congrArg UInt8.toBitVec h
  simpa using this
theorem bstr_beq : ((bstr xs).toList == (bstr ys).toList) = decide (xs = ys) := by
  rw [bstr_toList, bstr_toList]
  by_cases h : xs = ys
  · subst h; simp
  · have : ¬ xs.map UInt8.ofBitVec = ys.map UInt8.ofBitVec := fun hh => h ((List.map_inj_right (f := UInt8.ofBitVec) fun _ _ h => ofBitVec_inj h).1 hh)
    rw [decide_eq_false h]
    simpa using this
theorem str_eql {l : Bool} : evBin P .eql t l (.string (bstr xs)) (.string (bstr ys)) = some (.bool (decide (xs = ys))) := by
  show some (Value.bool ((bstr xs).toList == (bstr ys).toList)) = _
  rw [bstr_beq]
theorem str_neq {l : Bool} : evBin P .neq t l (.string (bstr xs)) (.string (bstr ys)) = some (.bool (!decide (xs = ys))) := by
  show some (Value.bool (!((bstr xs).toList == (bstr ys).toList))) = _
  rw [bstr_beq]
end

/-! slices that are one's own -/
structure ElOk (P : Program) (t el : TypeId) (info : TypeInfo) (es : Nat) (z : Value) : Prop where
  hd : P.underlying t = some (.slice el)
  hi : P.info? el = some info
  hs : info.size = es
  hz : zeroC info = some z
  hc : z.cells.size = es
  h0 : 0 < es
  hb : info.bytes ≤ 2 ^ 12
inductive Ow (lo es : Nat) (h : Heap) : Value → Nat → List Value → Prop
  | nil : Ow lo es h (.slice none 0 0) 0 []
  | empty : Ow lo es h emptyS 0 []
  | row {b n c : Nat} {k : Kind} {cs' : List Value} (hlo : lo ≤ b) (hb : b < h.nx) (hk : k ≠ .ro) (ho : h.obj b = some (.row k es cs')) (hn : n ≤ c) (hrw : k = .rw → c * es = cs'.length) (hgr : k = .grow → n = c ∧ cs'.length = n * es) :
      Ow lo es h (.slice (some ⟨b, 0, none⟩) n c) n (cs'.take (n * es))
theorem Ow.mk {lo es : Nat} {h : Heap} {b n c : Nat} {k : Kind} {cs' cs : List Value} (hlo : lo ≤ b) (hb : b < h.nx) (hk : k ≠ .ro) (ho : h.obj b = some (.row k es cs')) (hn : n ≤ c) (hrw : k = .rw → c * es = cs'.length) (hgr : k = .grow → n = c ∧ cs'.length = n * es)
    (hc : cs'.take (n * es) = cs) : Ow lo es h (.slice (some ⟨b, 0, none⟩) n c) n cs := by subst hc; exact .row hlo hb hk ho hn hrw hgr
section
variable {lo es : Nat} {h h' : Heap} {v w : Value} {n m : Nat} {cs ys : List Value}
theorem Ow.sl (s : Ow lo es h v n cs) : Sl es h v n cs := by
  cases s with
  | nil => exact .nil
  | empty => exact .empty
  | row hlo hb hk ho hn hrw hgr =>
    rename_i b c k cs'
    have hle : n * es ≤ cs'.length := by
      cases k with
      | ro => exact absurd rfl hk
      | rw => rw [← hrw rfl]; exact Nat.mul_le_mul_right _ hn
      | grow => rw [(hgr rfl).2]; omega
    exact .mk hb ho (fun _ => rfl) hn (by omega) (by simp)
theorem Ow.keep (s : Ow lo es h v n cs) (hx : h.nx ≤ h'.nx) (hk : ∀ r ∈ rowsOfV v, h'.obj r = h.obj r) : Ow lo es h' v n cs := by
  cases s with
  | nil => exact .nil
  | empty => exact .empty
  | row hlo hb hk' ho hn hrw hgr => exact .row hlo (by omega) hk' ((hk _ (by simp [rowsOfV])).trans ho) hn hrw hgr
theorem Ow.rows (s : Ow lo es h v n cs) : ∀ r ∈ rowsOfV v, lo ≤ r ∧ r < h.nx := by
  cases s with
  | nil => intro r hr; simp [rowsOfV] at hr
  | empty => intro r hr; simp [rowsOfV, emptyS] at hr
  | row hlo hb => intro r hr; simp [rowsOfV] at hr; subst hr; exact ⟨hlo, hb⟩
theorem Ow.at (s : Ow lo es h v n cs) {lo' : Nat} (hl : ∀ r ∈ rowsOfV v, lo' ≤ r) : Ow lo' es h v n cs := by
  cases s with
  | nil => exact .nil
  | empty => exact .empty
  | row hlo hb hk' ho hn hrw hgr => exact .row (hl _ (by simp [rowsOfV])) hb hk' ho hn hrw hgr
theorem Ow.le (s : Ow lo es h v n cs) {lo' : Nat} (hl : lo' ≤ lo) : Ow lo' es h v n cs := s.at fun r hr => Nat.le_trans hl (s.rows r hr).1
/-- What becomes of the rest, where an own slice is written. -/
structure Went (v v' : Value) (h h' : Heap) : Prop where
  nx : h.nx ≤ h'.nx
  rest : ∀ r, r < h.nx → r ∉ rowsOfV v → h'.obj r = h.obj r
  rows : ∀ r ∈ rowsOfV v', r ∈ rowsOfV v ∨ h.nx ≤ r
theorem Went.fr {v' : Value} (w : Went v v' h h') (hl : lo ≤ h.nx) (hv : ∀ r ∈ rowsOfV v, lo ≤ r) : Fr lo h h' := ⟨w.nx, fun r hr => w.rest r (by omega) fun hm => by have := hv r hm; omega⟩
theorem Went.owFr {v' : Value} (w : Went v v' h h') (hl : lo ≤ h.nx) (s : Ow lo es h v n cs) : Fr lo h h' := w.fr hl fun r hr => (s.rows r hr).1
section
variable {P : Program} {t el xt el2 : TypeId} {info : TypeInfo} {z : Value}
theorem new_sl (hx : P.underlying xt = some (.slice el2)) (hs : info.size = es) (s : Sl es h w m ys) : evNew P info z xt w h = some (m, ys) := by
  have h1 := sl_elems s (Nat.le_refl _)
  rw [List.take_of_length_le (by rw [s.length]; omega)] at h1
  unfold evNew
  rw [hx]
  simp only [Option.bind_some, appKind, sl_evLen s, hs, h1, s.length, if_true]
theorem new_int {k : IntKind} (hx : P.underlying xt = some (.int k)) (hm : m ≤ 4294967296) : evNew P info z xt (iv m) h = some (m, zeroCellsL z.cells.toList m) := by
  unfold evNew
  rw [hx]
  have : (0 : Int) ≤ m ∧ (m : Int) ≤ 2 ^ 32 := by constructor <;> omega
  simp only [Option.bind_some, appKind, evInt, iv, this, and_self, if_true, Int.toNat_natCast]
theorem app_ow (E : ElOk P t el info es z) (s : Ow lo es h v n cs) (hn : evNew P info z xt w h = some (m, ys)) (hy : ys.length = m * es) (h1 : ys.all (fun v => v.oneCell') = true) (hl : lo ≤ h.nx) (hle : n + m ≤ 4294967296) :
    ∃ v' h', evAppend P t xt v w h = some (v', h') ∧ Ow lo es h' v' (n + m) (cs ++ ys) ∧ Went v v' h h' := by
  have c1 : z.cells.size = info.size ∧ 0 < info.size ∧ info.bytes ≤ 2 ^ 12 ∧ ys.all (fun v => v.oneCell') = true := ⟨by rw [E.hc, E.hs], by rw [E.hs]; exact E.h0, E.hb, h1⟩
  have hm32 : m ≤ 2 ^ 32 := by omega
  have fresh : ∀ (h2 : Heap) (pre : List Value), h2.nx = h.nx → pre.length = n * es → pre = cs → (∀ r, r < h.nx → r ∉ rowsOfV v → h2.obj r = h.obj r) → 0 < n + m →
      Ow lo es (newRowH h2 .grow es (pre ++ ys)) (.slice (some ⟨h.nx, 0, none⟩) (n + m) (n + m)) (n + m) (cs ++ ys) ∧ Went v (.slice (some ⟨h.nx, 0, none⟩) (n + m) (n + m)) h (newRowH h2 .grow es (pre ++ ys)) := by
    intro h2 pre hnx hp hpc hr3 _
    subst hpc
    have hlen : (pre ++ ys).length = (n + m) * es := by rw [List.length_append, hp, hy, Nat.add_mul]
    refine ⟨.mk (k := .grow) (cs' := pre ++ ys) hl (by rw [nx_new]; omega) (by simp) (by rw [obj_new, if_pos hnx.symm]) (Nat.le_refl _) (fun h => by cases h) (fun _ => ⟨rfl, hlen⟩) (List.take_of_length_le (by omega)), ⟨by rw [nx_new]; omega, fun r hr hm => by rw [obj_new, if_neg (by omega)]; exact hr3 r hr hm, fun r hr => .inr (by simp [rowsOfV] at hr; omega)⟩⟩
  cases s with
  | nil =>
    simp only [evAppend, E.hd, E.hi, E.hz, hn]
    rw [if_pos c1]
    by_cases h0 : m = 0
    · subst h0
      have : ys = [] := List.length_eq_zero_iff.1 (by simpa using hy)
      subst this
      exact ⟨_, _, if_pos rfl, .nil, ⟨Nat.le_refl _, fun _ _ _ => rfl, fun r hr => .inl hr⟩⟩
    · rw [if_neg h0, if_pos hm32]
      obtain ⟨o, wt⟩ := fresh h [] rfl (by simp) rfl (fun _ _ _ => rfl) (by omega)
      simp only [List.nil_append, Nat.zero_add] at o wt
      rw [E.hs]
      exact ⟨_, _, rfl, by rw [Nat.zero_add]; exact o, wt⟩
  | empty =>
    simp only [evAppend, E.hd, E.hi, E.hz, hn, emptyS]
    rw [if_pos c1]
    by_cases h0 : m = 0
    · subst h0
      have : ys = [] := List.length_eq_zero_iff.1 (by simpa using hy)
      subst this
      exact ⟨_, _, if_pos rfl, .empty, ⟨Nat.le_refl _, fun _ _ _ => rfl, fun r hr => .inl hr⟩⟩
    · rw [if_neg h0, if_pos hm32]
      obtain ⟨o, wt⟩ := fresh h [] rfl (by simp) rfl (fun _ _ _ => rfl) (by omega)
      simp only [List.nil_append, Nat.zero_add] at o wt
      rw [E.hs]
      exact ⟨_, _, rfl, by rw [Nat.zero_add]; exact o, wt⟩
  | row hlo hb hk ho hnc hrw hgr =>
    rename_i b c k cs'
    simp only [evAppend, E.hd, E.hi, E.hz, hn, ho]
    rw [if_pos c1]
    have hle2 : n * es ≤ cs'.length := by
      cases k with
      | ro => exact absurd rfl hk
      | rw => rw [← hrw rfl]; exact Nat.mul_le_mul_right _ hnc
      | grow => rw [(hgr rfl).2]; omega
    by_cases h0 : m = 0
    · subst h0
      have : ys = [] := List.length_eq_zero_iff.1 (by simpa using hy)
      subst this
      rw [if_pos (by omega), if_pos rfl]
      exact ⟨_, _, rfl, by simpa using Ow.row hlo hb hk ho hnc hrw hgr, ⟨Nat.le_refl _, fun _ _ _ => rfl, fun r hr => .inl hr⟩⟩
    by_cases hfit : n + m ≤ c
    · have hkw : k = .rw := by
        cases k with
        | ro => exact absurd rfl hk
        | rw => rfl
        | grow => have := (hgr rfl).1; omega
      subst hkw
      have hcl := hrw rfl
      have hroom : (n + m) * es ≤ cs'.length := by rw [← hcl]; exact Nat.mul_le_mul_right _ hfit
      rw [if_pos hfit, if_neg h0, if_pos ⟨by simp, by rw [E.hs]; omega⟩, E.hs]
      refine ⟨_, _, rfl, .mk (k := .rw) (cs' := setAt cs' (n * es) ys) hlo hb (by simp) (by rw [obj_put, if_pos rfl, Nat.zero_add]) hfit (fun _ => by rw [setAt_length]; exact hcl) (fun h => by cases h) ?_, ⟨Nat.le_refl _, fun r _ hm => by rw [obj_put, if_neg]; simpa [rowsOfV] using hm, fun r hr => .inl (by simpa [rowsOfV] using hr)⟩⟩
      have e : cs' = cs'.take (n * es) ++ cs'.drop (n * es) := by simp
      have hlt : (cs'.take (n * es)).length = n * es := by simp; omega
      have e2 : setAt cs' (n * es) ys = cs'.take (n * es) ++ (ys ++ (cs'.drop (n * es)).drop ys.length) := by
        have := setAt_append ys (cs'.take (n * es)) (cs'.drop (n * es)) (by rw [hy]; simp; rw [Nat.add_mul] at hroom; omega)
        rw [hlt] at this
        rw [← this, List.take_append_drop]
      rw [e2, ← List.append_assoc, List.take_append_of_le_length (by rw [List.length_append, hlt, hy, Nat.add_mul]; omega), List.take_of_length_le (by rw [List.length_append, hlt, hy, Nat.add_mul]; omega)]
    · rw [if_neg hfit, if_pos ⟨by omega, hnc, by rw [E.hs]; omega⟩, E.hs]
      have hpre : ((cs'.drop 0).take (n * es)) = cs'.take (n * es) := by simp
      by_cases hex : exactS k 0 c es cs' = true
      · rw [if_pos hex]
        obtain ⟨o, wt⟩ := fresh h ((cs'.drop 0).take (n * es)) rfl (by simp; omega) (by simp) (fun _ _ _ => rfl) (by omega)
        exact ⟨_, _, rfl, o, wt⟩
      · have hkg : k = .grow := by
          cases k with
          | ro => exact absurd rfl hk
          | rw => exact absurd rfl hex
          | grow => rfl
        subst hkg
        rw [if_neg hex, if_pos ⟨(hgr rfl).1, rfl⟩]
        obtain ⟨o, wt⟩ := fresh (h.put b none) ((cs'.drop 0).take (n * es)) rfl (by simp; omega) (by simp) (fun r _ hm => by rw [obj_put, if_neg]; simpa [rowsOfV] using hm) (by omega)
        exact ⟨_, _, rfl, o, wt⟩
end
end
end Go.Proofs.Ytfehhihllenjiaa
