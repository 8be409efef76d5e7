/- Operations: append, copy. -/
import Derived.Test.YtfehhihllenjiaaE
set_option linter.all false
namespace Go.Proofs.Ytfehhihllenjiaa

def evLen : Value → Option Nat
  | .slice _ n _ => some n
  | .string s => some s.size
  | _ => none
theorem evLen_sound {P : Program} {x x' : Value} {n : Nat} {μ : Mu} (he : evLen x = some n) (hx : VR μ x x') (w : World) : (Builtin.lenOf x').run P w = .ok n w := by
  unfold evLen at he
  split at he
  · simp only [Option.some.injEq] at he; subst he; cases hx <;> rfl
  · simp only [Option.some.injEq] at he; subst he; cases hx; rfl
  · simp at he

def evElems (size n : Nat) (x : Value) (h : Heap) : Option (List Value) :=
  match x with
  | .slice none 0 0 => some []
  | .slice (some ⟨_, _, some _⟩) 0 0 => if n = 0 then some [] else none
  | .slice (some ⟨b, i, none⟩) _ _ => match h.obj b with
    | some (.row _ _ cs) => if i + n * size ≤ cs.length then some ((cs.drop i).take (n * size)) else none
    | _ => none
  | .string s => some ((s.data.toList.take n).map fun b => .int .u8 b.toNat)
  | _ => none
theorem VRL.ints {μ : Mu} : ∀ (l : List Int), VRL μ (l.map fun n => .int .u8 n) (l.map fun n => .int .u8 n)
  | [] => .nil
  | n :: l => .cons (.int _ _) (VRL.ints l)
theorem evElems_sound {P : Program} {size n : Nat} {x x' : Value} {h : Heap} {l : List Value} {μ : Mu} {w : World} (he : evElems size n x h = some l) (hr : Rel μ h w) (hx : VR μ x x') :
    ∃ a, (∀ w' : World, w'.heap = w.heap → (Builtin.firstCells size n x').run P w' = .ok a w') ∧ VRL μ l a.toList := by
  unfold evElems at he
  split at he
  · cases hx
    simp only [Option.some.injEq] at he; subst he
    exact ⟨#[], fun _ _ => rfl, .nil⟩
  · split at he
    case isFalse => simp at he
    case isTrue hn =>
    subst hn
    simp only [Option.some.injEq] at he; subst he
    cases hx with
    | empty0 a' => exact ⟨#[], fun _ _ => by simp [Builtin.firstCells, loadCells, loadCellsFrom], .nil⟩
    | emptyAny a' C => exact ⟨#[], fun _ _ => by simp [Builtin.firstCells, loadCells, loadCellsFrom], .nil⟩
  · rename_i b i n0 c0
    cases hx with
    | slice hb hc =>
    rename_i C m
    split at he
    case h_2 => simp at he
    case h_1 k es cs hob =>
    split at he
    case isFalse => simp at he
    case isTrue hle =>
    simp only [Option.some.injEq] at he; subst he
    obtain ⟨hmk, hme, hlen, hroom, arr, el, fr, hblk, hsz, hvl, hfz⟩ := hr.obj b m _ hb hob
    refine ⟨_, fun w' hw' => by simp only [Builtin.firstCells]; exact run_loadCells_row (by rw [hw']; exact hblk) (by omega), ?_⟩
    have := (hvl.drop i).take (n * size)
    simp only [List.drop_take, List.drop_drop, List.take_take] at this
    rwa [Nat.min_eq_left (by omega)] at this
  · cases hx
    simp only [Option.some.injEq] at he; subst he
    rename_i s
    refine ⟨(s.extract 0 n).data.map fun b => .int .u8 b.toNat, fun _ _ => rfl, ?_⟩
    have e : (s.extract 0 n).data.toList = s.data.toList.take n := by
      simp [ByteArray.data_extract]
    rw [Array.toList_map, e]
    have := VRL.ints (μ := μ) ((s.data.toList.take n).map fun b => (b.toNat : Int))
    rw [List.map_map] at this
    exact this
  · simp at he

theorem growBy_le (need : Nat) : ∀ (r c : Nat), c ≤ need + (need + 768) / 4 → Builtin.growBy need r c ≤ need + (need + 768) / 4
  | 0, c, h => h
  | r + 1, c, h => by
    simp only [Builtin.growBy]
    split
    · exact h
    · exact growBy_le need r _ (by omega)
theorem nextslicecap_le {need old : Nat} (h : old ≤ need) : Builtin.nextslicecap need old ≤ 2 * need + 512 := by
  unfold Builtin.nextslicecap
  split
  · omega
  · split
    · omega
    · have := growBy_le need 4 old (by omega); omega

/-- What append takes: the number of new elements, their cells. -/
def appKind : TypeDesc → Option Bool
  | .int _ => some true
  | .slice _ | .string => some false
  | _ => none
def evNew (P : Program) (info : TypeInfo) (z : Value) (xt : TypeId) (x : Value) (h : Heap) : Option (Nat × List Value) :=
  match (P.underlying xt).bind appKind with
  | none => none
  | some true => match evInt x with
    | some l => if 0 ≤ l ∧ l ≤ 2 ^ 32 then some (l.toNat, zeroCellsL z.cells.toList l.toNat) else none
    | none => none
  | some false => match evLen x with
    | some m => match evElems info.size m x h with
      | some xs => if xs.length = m * info.size then some (m, xs) else none
      | none => none
    | none => none

def exactS (k : Kind) (i c es : Nat) (cs : List Value) : Bool := k != .grow || i + c * es != cs.length
def evAppend (P : Program) (st xt : TypeId) (s x : Value) (h : Heap) : Option (Value × Heap) :=
  match P.underlying st with
  | some (.slice elem) => match P.info? elem with
    | some info => match zeroC info with
      | some z => match evNew P info z xt x h with
        | some (m, xs) =>
          if z.cells.size = info.size ∧ 0 < info.size ∧ info.bytes ≤ 2 ^ 12 ∧ xs.all (fun v => v.oneCell') = true then
            match s with
            | .slice none 0 0 =>
              if m = 0 then some (s, h)
              else if m ≤ 2 ^ 32 then some (.slice (some ⟨h.nx, 0, none⟩) m m, newRowH h .grow info.size xs) else none
            | .slice (some ⟨0, 0, some 0⟩) 0 0 =>
              if m = 0 then some (s, h)
              else if m ≤ 2 ^ 32 then some (.slice (some ⟨h.nx, 0, none⟩) m m, newRowH h .grow info.size xs) else none
            | .slice (some ⟨b, i, none⟩) n c => match h.obj b with
              | some (.row k es cs) =>
                if n + m ≤ c then
                  if m = 0 then some (s, h)
                  else if k ≠ .ro ∧ i + (n + m) * info.size ≤ cs.length then
                    some (.slice (some ⟨b, i, none⟩) (n + m) c, h.put b (some (.row k es (setAt cs (i + n * info.size) xs))))
                  else none
                else if n + m ≤ 2 ^ 32 ∧ n ≤ c ∧ i + n * info.size ≤ cs.length then
                  if exactS k i c es cs = true then
                    some (.slice (some ⟨h.nx, 0, none⟩) (n + m) (n + m), newRowH h .grow info.size ((cs.drop i).take (n * info.size) ++ xs))
                  else if n = c ∧ es = info.size then
                    some (.slice (some ⟨h.nx, 0, none⟩) (n + m) (n + m), newRowH (h.put b none) .grow info.size ((cs.drop i).take (n * info.size) ++ xs))
                  else none
                else none
              | _ => none
            | _ => none
          else none
        | none => none
      | none => none
    | none => none
  | _ => none

/-- What 'append' appends, run. -/
structure NewRun (P : Program) (info : TypeInfo) (z : Value) (xt : TypeId) (x : Value) (w : World) (m : Nat) (new : Array Value) where
  d : TypeDesc
  hd : P.underlying xt = some d
  kd : (appKind d).isSome = true
  zs : appKind d = some true → ∃ l : Int, (∀ w, (asInt x).run P w = .ok l w) ∧ 0 ≤ l ∧ l ≤ 2 ^ 32 ∧ m = l.toNat ∧ new = Builtin.zeroCells z.cells m
  ot : appKind d = some false → (∀ w, (Builtin.lenOf x).run P w = .ok m w) ∧ ∀ w' : World, w'.heap = w.heap → (Builtin.firstCells info.size m x).run P w' = .ok new w'

set_option maxHeartbeats 4000000 in
theorem run_append_grow {P : Program} {st ty elem xt : TypeId} {info : TypeInfo} {z : Value} {base : Option Addr} {n C m : Nat} {x : Value} {old new : Array Value} {w : World}
    (hd : P.underlying st = some (.slice elem)) (hi : P.info? elem = some info) (hz : info.zero = some z) (hnew : NewRun P info z xt x w m new)
    (hold : ∀ w' : World, w'.heap = w.heap → (Builtin.firstCells info.size n (.slice base n C)).run P w' = .ok old w')
    (hgrow : C < n + m) (hn : n + m ≤ 2 ^ 32) (hb : info.bytes ≤ 2 ^ 12) (hpos : 0 < info.size) (hz1 : z.cells.size = info.size) :
    ∃ cap : Nat, n + m ≤ cap ∧
      (Builtin.append_ #[st, xt] ty #[.slice base n C, x]).run P w = .ok (.slice (some ⟨w.heap.size, 0, none⟩) (n + m) cap) (w.drew.alloc (.cells (old ++ new ++ Builtin.zeroCells z.cells (cap - (n + m))) elem)) := by
  obtain ⟨d, hxt, hkd, hzs, hot⟩ := hnew
  have h1 : ¬ (n + m ≤ C) := by omega
  have hcap := nextslicecap_le (need := n + m) (old := C) (by omega)
  have h2 : ¬ 2 ^ 48 < Builtin.nextslicecap (n + m) C * info.bytes := by
    have : Builtin.nextslicecap (n + m) C * info.bytes ≤ (2 * (2 ^ 32) + 512) * 2 ^ 12 := Nat.mul_le_mul (by omega) hb
    omega
  have h2' : ¬ 281474976710656 < Builtin.nextslicecap (n + m) C * info.bytes := by simpa using h2
  have h3 : ¬ IntKind.i64.max < (n : Int) + (m : Int) := by
    have : IntKind.i64.max = 9223372036854775807 := by decide
    omega
  refine ⟨n + m + (w.tape w.drawn (.appendCap (n + m) C elem)) % (2 ^ 63 - (n + m)), by omega, ?_⟩
  have hdh : w.drew.heap = w.heap := rfl
  cases d with
  | int k =>
    obtain ⟨l, hl, h0, hl2, rfl, rfl⟩ := hzs rfl
    · 
      have wl := wrap_i64 (n := l) h0 (by omega)
      have n1 : ¬ l < 0 := by omega
      have n2 : ¬ (281474976710656 : Int) < l * (info.bytes : Int) := by
        have : l * (info.bytes : Int) ≤ 2 ^ 32 * 2 ^ 12 := Int.mul_le_mul hl2 (by exact_mod_cast hb) (by omega) (by omega)
        omega
      have h3' : ¬ (9223372036854775807 : Int) < (n : Int) + max l 0 := by omega
      clear hzs hot
      by_cases hl0 : l.toNat = 0
      · obtain rfl : l = 0 := by omega
        simp only [Int.toNat_zero, Nat.add_zero] at *
        have h3'' : ¬ (9223372036854775807 : Int) < (n : Int) := by omega
        simp [Builtin.append_, run_underlying hd, run_underlying hxt, run_sizeOf hi, hl, wl, run_typeInfo hi, h1, h2', h3'', Question.forced, Question.cut, hold _ hdh, run_zeroValue hi hz, newRow, Builtin.zeroCells, map_range_zero]
      · have hl1 : ¬ l.toNat * info.size = 0 := by
          have := Nat.mul_pos (Nat.pos_of_ne_zero hl0) hpos; omega
        simp [Builtin.append_, run_underlying hd, run_underlying hxt, run_sizeOf hi, hl, wl, n1, n2, run_typeInfo hi, h1, h2', h3', Question.forced, Question.cut, hold _ hdh, hl1, run_zeroValue hi hz, newRow]
  | slice _ =>
    obtain ⟨hl, hfc⟩ := hot rfl
    clear hzs hot
    have h3'' : ¬ (9223372036854775807 : Int) < (n : Int) + (m : Int) := by omega
    simp [Builtin.append_, run_underlying hd, run_underlying hxt, run_sizeOf hi, hl, run_typeInfo hi, h1, h2', Question.forced, Question.cut, hold _ hdh, hfc _ hdh, h3'', run_zeroValue hi hz, newRow]
  | string =>
    obtain ⟨hl, hfc⟩ := hot rfl
    clear hzs hot
    have h3'' : ¬ (9223372036854775807 : Int) < (n : Int) + (m : Int) := by omega
    simp [Builtin.append_, run_underlying hd, run_underlying hxt, run_sizeOf hi, hl, run_typeInfo hi, h1, h2', Question.forced, Question.cut, hold _ hdh, hfc _ hdh, h3'', run_zeroValue hi hz, newRow]
  | _ => simp [appKind] at hkd

set_option maxHeartbeats 1000000 in
theorem run_append_fit0 {P : Program} {st ty elem xt : TypeId} {info : TypeInfo} {z : Value} {base : Option Addr} {n C : Nat} {x : Value} {new : Array Value} {w : World}
    (hd : P.underlying st = some (.slice elem)) (hi : P.info? elem = some info) (hz : info.zero = some z) (hnew : NewRun P info z xt x w 0 new) (hfit : n ≤ C) (hn0 : new = #[]) :
    (Builtin.append_ #[st, xt] ty #[.slice base n C, x]).run P w = .ok (.slice base n C) w := by
  obtain ⟨d, hxt, hkd, hzs, hot⟩ := hnew
  subst hn0
  cases d with
  | int k =>
    obtain ⟨l, hl, h0, hl2, hm, _⟩ := hzs rfl
    obtain rfl : l = 0 := by omega
    have w0 := wrap_i64 (n := 0) (by omega) (by omega)
    cases base <;> simp [Builtin.append_, run_underlying hd, run_underlying hxt, run_sizeOf hi, hl, run_typeInfo hi, w0, hfit, storeCells]
  | slice _ =>
    obtain ⟨hl, hfc⟩ := hot rfl
    cases base <;> simp [Builtin.append_, run_underlying hd, run_underlying hxt, run_sizeOf hi, hl, run_typeInfo hi, hfit, hfc _ rfl, storeCells]
  | string =>
    obtain ⟨hl, hfc⟩ := hot rfl
    cases base <;> simp [Builtin.append_, run_underlying hd, run_underlying hxt, run_sizeOf hi, hl, run_typeInfo hi, hfit, hfc _ rfl, storeCells]
  | _ => simp [appKind] at hkd

set_option maxHeartbeats 1000000 in
theorem run_append_fit {P : Program} {st ty elem xt : TypeId} {info : TypeInfo} {z : Value} {B o n C m : Nat} {x : Value} {new arr : Array Value} {el : TypeId} {fr : Nat × Nat} {w : World}
    (hd : P.underlying st = some (.slice elem)) (hi : P.info? elem = some info) (hz : info.zero = some z) (hnew : NewRun P info z xt x w m new) (hfit : n + m ≤ C)
    (hpos : 0 < info.size) (hz1 : z.cells.size = info.size) (hby : info.bytes ≤ 2 ^ 12)
    (hb : w.heap[B]? = some (.cells arr el fr)) (hsz : o + n * info.size + new.size ≤ arr.size) (h1 : ∀ v ∈ new.toList, v.oneCell' = true) (hfr : ∀ j, j < arr.size → ¬ (fr.1 ≤ j ∧ j < fr.2)) :
    (Builtin.append_ #[st, xt] ty #[.slice (some ⟨B, o, none⟩) n C, x]).run P w = .ok (.slice (some ⟨B, o, none⟩) (n + m) C) (w.setBlk B (.cells (setAt arr.toList (o + n * info.size) new.toList).toArray el fr)) := by
  have hst := run_storeCells_row (P := P) (o := o + n * info.size) new.toList 0 arr w hb (by simp; omega) h1 hfr
  simp only [Nat.add_zero] at hst
  obtain ⟨d, hxt, hkd, hzs, hot⟩ := hnew
  cases d with
  | int k =>
    obtain ⟨l, hl, h0, hl2, hm, hnw⟩ := hzs rfl
    have wl := wrap_i64 (n := l) h0 (by omega)
    by_cases hbig : 281474976710656 < l * (info.bytes : Int)
    · have : l * (info.bytes : Int) ≤ 2 ^ 32 * 2 ^ 12 := Int.mul_le_mul hl2 (by exact_mod_cast hby) (by omega) (by omega)
      omega
    · have n1 : ¬ l < 0 := by omega
      by_cases hl0 : l.toNat * info.size = 0
      · have hl00 : l = 0 := by
          rcases Nat.mul_eq_zero.1 hl0 with h | h <;> omega
        subst hl00
        simp only [Int.toNat_zero] at hm
        subst hm
        have hnn : new = #[] := by rw [hnw]; simp [Builtin.zeroCells, map_range_zero]
        subst hnn
        simp [Builtin.append_, run_underlying hd, run_underlying hxt, run_sizeOf hi, hl, run_typeInfo hi, wl, (show n ≤ C by omega), storeCells, setAt, setBlk_same hb]
      · subst hm
        rw [hnw] at hst ⊢
        simp [Builtin.append_, run_underlying hd, run_underlying hxt, run_sizeOf hi, hl, run_typeInfo hi, wl, n1, hbig, hfit, run_zeroValue hi hz, hl0, addr_add, hst]
  | slice _ =>
    obtain ⟨hl, hfc⟩ := hot rfl
    simp [Builtin.append_, run_underlying hd, run_underlying hxt, run_sizeOf hi, hl, run_typeInfo hi, hfit, hfc _ rfl, addr_add, hst]
  | string =>
    obtain ⟨hl, hfc⟩ := hot rfl
    simp [Builtin.append_, run_underlying hd, run_underlying hxt, run_sizeOf hi, hl, run_typeInfo hi, hfit, hfc _ rfl, addr_add, hst]
  | _ => simp [appKind] at hkd
end Go.Proofs.Ytfehhihllenjiaa
