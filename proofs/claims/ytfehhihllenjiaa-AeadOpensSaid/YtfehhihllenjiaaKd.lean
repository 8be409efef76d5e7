/- One-time tags: the document's rows of numbers, plain. -/
import Derived.Test.YtfehhihllenjiaaKb
set_option linter.all false
namespace Go.Proofs.Ytfehhihllenjiaa
open Go.Proofs
/-- A number's digits. -/
def digs (c : Nat) : List Nat := if h : c = 0 then [] else c % 256 :: digs (c / 256)
termination_by c
decreasing_by omega
theorem digs_zero : digs 0 = [] := by rw [digs]; rfl
theorem digs_pos {c : Nat} (h : 0 < c) : digs c = c % 256 :: digs (c / 256) := by
  rw [digs, dif_neg (by omega)]
theorem digs_V (c : Nat) : leV (digs c) = c := by
  induction c using Nat.strongRecOn with
  | _ c ih =>
    by_cases h : c = 0
    · subst h; rw [digs_zero]; rfl
    · rw [digs_pos (by omega), leV_cons, ih (c / 256) (by omega)]; omega
theorem digs_lt (c : Nat) : ∀ x ∈ digs c, x < 256 := by
  induction c using Nat.strongRecOn with
  | _ c ih =>
    intro x hx
    by_cases h : c = 0
    · subst h; rw [digs_zero] at hx; exact absurd hx List.not_mem_nil
    · rw [digs_pos (by omega)] at hx
      rcases List.mem_cons.mp hx with rfl | hx
      · omega
      · exact ih (c / 256) (by omega) x hx
theorem digs_length {k : Nat} : ∀ {c : Nat}, c < 256 ^ k → (digs c).length ≤ k := by
  induction k with
  | zero => intro c hc; have : c = 0 := by simpa using hc
            subst this; rw [digs_zero]; exact Nat.le_refl _
  | succ k ih =>
    intro c hc
    by_cases h : c = 0
    · subst h; rw [digs_zero]; exact Nat.zero_le _
    · rw [Nat.pow_succ] at hc
      rw [digs_pos (by omega), List.length_cons]
      have := ih (c := c / 256) (by omega)
      omega
/-- A row in which each number is a byte. -/
def carryL : List Nat → Nat → List Nat
  | [], c => digs c
  | x :: l, c => (c + x) % 256 :: carryL l ((c + x) / 256)
theorem carryL_nil (c : Nat) : carryL [] c = digs c := rfl
theorem carryL_cons (x : Nat) (l : List Nat) (c : Nat) : carryL (x :: l) c = (c + x) % 256 :: carryL l ((c + x) / 256) := rfl
theorem carryL_V (l : List Nat) : ∀ c, leV (carryL l c) = leV l + c := by
  induction l with
  | nil => intro c; rw [carryL_nil, digs_V, leV_nil, Nat.zero_add]
  | cons x l ih => intro c; rw [carryL_cons, leV_cons, ih, leV_cons]; omega
theorem carryL_lt (l : List Nat) : ∀ c, ∀ x ∈ carryL l c, x < 256 := by
  induction l with
  | nil => intro c; exact digs_lt c
  | cons y l ih =>
    intro c x hx
    rw [carryL_cons] at hx
    rcases List.mem_cons.mp hx with rfl | hx
    · omega
    · exact ih _ x hx
theorem carryL_length {l : List Nat} (hM : ∀ x ∈ l, x ≤ 1073741824) : ∀ {c}, c ≤ 1073741824 → (carryL l c).length ≤ l.length + 4 := by
  induction l with
  | nil => intro c hc; rw [carryL_nil]; have := digs_length (k := 4) (c := c) (by omega); simpa using this
  | cons x l ih =>
    intro c hc
    have h1 := hM x List.mem_cons_self
    rw [carryL_cons, List.length_cons, List.length_cons]
    have := ih (fun y hy => hM y (List.mem_cons_of_mem _ hy)) (c := (c + x) / 256) (by omega)
    omega
theorem carryL_ge (l : List Nat) : ∀ c, l.length ≤ (carryL l c).length := by
  induction l with
  | nil => intro c; exact Nat.zero_le _
  | cons x l ih => intro c; rw [carryL_cons, List.length_cons, List.length_cons]; have := ih ((c + x) / 256); omega
/-- The numbers of the document's folding. -/
def fold1 (V : Nat) : Nat := V % Q130 + 5 * (V / Q130)
theorem fold1_mod (V : Nat) : fold1 V % P130 = V % P130 := by
  unfold fold1
  refine times_mod (V := V) ?_
  have := Nat.mod_add_div V Q130
  omega
theorem fold1_lt {V : Nat} (h : Q130 ≤ V) : fold1 V < V := by
  unfold fold1 Q130 at *
  omega
def redR (V : Nat) : Nat := if h : V < Q130 then 0 else redR (fold1 V) + 1
termination_by V
decreasing_by exact fold1_lt (by omega)
theorem redR_low {V : Nat} (h : V < Q130) : redR V = 0 := by rw [redR, dif_pos h]
theorem redR_high {V : Nat} (h : Q130 ≤ V) : redR V = redR (fold1 V) + 1 := by rw [redR, dif_neg (by omega)]
theorem redR_le1 {V : Nat} (h : V < 2 * Q130) : redR V ≤ 2 := by
  by_cases h1 : V < Q130
  · rw [redR_low h1]; omega
  · rw [redR_high (by omega)]
    by_cases h2 : fold1 V < Q130
    · rw [redR_low h2]; omega
    · rw [redR_high (by omega), redR_low (by unfold fold1 Q130 at *; omega)]
      omega
theorem redR_le2 {V : Nat} (h : V < Q130 * 100000000000000000000000000) : redR V ≤ 3 := by
  by_cases h1 : V < Q130
  · rw [redR_low h1]; omega
  · rw [redR_high (by omega)]
    have := redR_le1 (V := fold1 V) (by unfold fold1 Q130 at *; omega)
    omega
theorem redR_le {V : Nat} (h : V < 256 ^ 43) : redR V ≤ 4 := by
  have e : (256 : Nat) ^ 43 = 35835915874844867368919076489095108449946327955754392558399825615420669938882575126094039892345713852416 := by decide
  rw [e] at h
  by_cases h1 : V < Q130
  · rw [redR_low h1]; omega
  · rw [redR_high (by omega)]
    have := redR_le2 (V := fold1 V) (by unfold fold1 Q130 at *; omega)
    omega
/-- What is above 130 bits, told from the digits. -/
def aboveL (l : List Nat) : Nat → Bool
  | 0 => false
  | j + 1 => aboveL l j || (decide (0 < l.getD (16 + j) 0) && (decide (16 < 16 + j) || decide (3 < l.getD (16 + j) 0)))
theorem aboveL_succ (l : List Nat) (j : Nat) : aboveL l (j + 1) = (aboveL l j || (decide (0 < l.getD (16 + j) 0) && (decide (16 < 16 + j) || decide (3 < l.getD (16 + j) 0)))) := rfl
theorem getD_drop (l : List Nat) (k i : Nat) : (l.drop k).getD i 0 = l.getD (k + i) 0 := by
  rw [List.getD_eq_getElem?_getD, List.getD_eq_getElem?_getD, List.getElem?_drop]
theorem aboveL_pos {l : List Nat} {j : Nat} (hl : j ≤ l.length - 16) : aboveL l j = true ↔ 4 ≤ leV ((l.drop 16).take j) := by
  induction j with
  | zero => simp [aboveL, leV]
  | succ j ih =>
    have hj : j < (l.drop 16).length := by rw [List.length_drop]; omega
    rw [aboveL_succ, leV_take_succ _ _ hj, getD_drop, Bool.or_eq_true, ih (by omega), Bool.and_eq_true, Bool.or_eq_true, decide_eq_true_eq, decide_eq_true_eq, decide_eq_true_eq]
    have hp : 0 < 256 ^ j := Nat.pow_pos (by decide)
    cases j with
    | zero => simp [leV]; omega
    | succ j =>
      have h4 : 256 ≤ 256 ^ (j + 1) := by rw [Nat.pow_succ]; have : 0 < 256 ^ j := Nat.pow_pos (by decide); omega
      constructor
      · rintro (h | ⟨h, _⟩)
        · omega
        · have := Nat.mul_le_mul h4 h
          omega
      · intro h
        by_cases h0 : 0 < l.getD (16 + (j + 1)) 0
        · exact .inr ⟨h0, .inl (by omega)⟩
        · have : l.getD (16 + (j + 1)) 0 = 0 := by omega
          rw [this, Nat.mul_zero] at h
          exact .inl (by omega)
theorem leV_split (l : List Nat) (k : Nat) (hk : k ≤ l.length) : leV l = leV (l.take k) + 256 ^ k * leV (l.drop k) := by
  conv => lhs; rw [← List.take_append_drop k l]
  rw [leV_append, List.length_take, Nat.min_eq_left hk]
theorem p16 : (256 : Nat) ^ 16 = 340282366920938463463374607431768211456 := by decide
theorem take_lt {l : List Nat} (h : ∀ x ∈ l, x < 256) (k : Nat) (hk : k ≤ l.length) : leV (l.take k) < 256 ^ k := by
  have := leV_lt (a := l.take k) (fun x hx => h x (List.mem_of_mem_take hx))
  rwa [List.length_take, Nat.min_eq_left hk] at this
theorem aboveL_iff {l : List Nat} (h : ∀ x ∈ l, x < 256) : aboveL l (l.length - 16) = true ↔ Q130 ≤ leV l := by
  rw [aboveL_pos (Nat.le_refl _), List.take_of_length_le (by rw [List.length_drop]; exact Nat.le_refl _)]
  by_cases hl : 16 ≤ l.length
  · have h1 := take_lt h 16 hl
    rw [leV_split l 16 hl]
    rw [p16] at h1 ⊢
    unfold Q130
    omega
  · rw [List.drop_of_length_le (by omega), leV_nil]
    have h1 := leV_lt h
    have h2 : (256 : Nat) ^ l.length ≤ 256 ^ 16 := Nat.pow_le_pow_right (by decide) (by omega)
    rw [p16] at h2
    unfold Q130
    omega
/-- The lowest seventeen digits, 130 bits of them. -/
def low17 (l : List Nat) : List Nat := (List.range 16).map (fun i => l.getD i 0) ++ [l.getD 16 0 % 4]
/-- What is added above, behind j rounds. -/
def highS (l : List Nat) : Nat → Nat
  | 0 => 0
  | j + 1 => highS l j + 256 ^ j * (l.getD (16 + j) 0 / 4 + l.getD (16 + j + 1) 0 % 4 * 64)
theorem highS_succ (l : List Nat) (j : Nat) : highS l (j + 1) = highS l j + 256 ^ j * (l.getD (16 + j) 0 / 4 + l.getD (16 + j + 1) 0 % 4 * 64) := rfl
theorem highS_eq (l : List Nat) : ∀ j, j ≤ l.length - 16 → 4 * highS l j + l.getD 16 0 % 4 = leV ((l.drop 16).take j) + l.getD (16 + j) 0 % 4 * 256 ^ j := by
  intro j
  induction j with
  | zero => intro _; simp [highS, leV]
  | succ j ih =>
    intro hj
    have hjl : j < (l.drop 16).length := by rw [List.length_drop]; omega
    rw [highS_succ, leV_take_succ _ _ hjl, getD_drop, Nat.pow_succ]
    have := ih (by omega)
    generalize 256 ^ j = E at *
    rw [show 16 + (j + 1) = 16 + j + 1 from rfl]
    generalize l.getD (16 + j) 0 = x at *
    generalize l.getD (16 + j + 1) 0 % 4 = y at *
    have hx : x = 4 * (x / 4) + x % 4 := by omega
    have e1 : E * x = 4 * (E * (x / 4)) + E * (x % 4) := by
      conv => lhs; rw [hx]
      rw [Nat.mul_add, Nat.mul_left_comm]
    have e2 : x % 4 * E = E * (x % 4) := Nat.mul_comm _ _
    have e3 : E * (x / 4 + y * 64) = E * (x / 4) + 64 * (E * y) := by rw [Nat.mul_add, Nat.mul_comm y 64, Nat.mul_left_comm]
    have e4 : y * (E * 256) = 256 * (E * y) := by rw [Nat.mul_comm E 256, Nat.mul_left_comm, Nat.mul_comm y E]
    rw [e1, e3, e4]
    rw [e2] at this
    omega
theorem leV_map_range (l : List Nat) : ∀ n, n ≤ l.length → leV ((List.range n).map (fun i => l.getD i 0)) = leV (l.take n) := by
  intro n
  induction n with
  | zero => intro _; rfl
  | succ n ih =>
    intro hn
    rw [List.range_succ, List.map_append, List.map_cons, List.map_nil, leV_snoc, ih (by omega), List.length_map, List.length_range, leV_take_succ _ _ (by omega)]
theorem highS_fold {l : List Nat} (h : ∀ x ∈ l, x < 256) (hl : 17 ≤ l.length) : leV (low17 l) + 5 * highS l (l.length - 16) = fold1 (leV l) := by
  have h1 := highS_eq l (l.length - 16) (Nat.le_refl _)
  rw [List.take_of_length_le (by rw [List.length_drop]; exact Nat.le_refl _), show l.getD (16 + (l.length - 16)) 0 = 0 from by rw [List.getD_eq_getElem?_getD, List.getElem?_eq_none (by omega)]; rfl] at h1
  have h2 : leV (low17 l) = leV (l.take 16) + 256 ^ 16 * (l.getD 16 0 % 4) := by
    unfold low17
    rw [leV_snoc, leV_map_range _ _ (by omega), List.length_map, List.length_range]
  have h3 := leV_split l 16 (by omega)
  have h4 := take_lt h 16 (by omega)
  have h5 : leV (l.drop 16) % 4 = l.getD 16 0 % 4 := by
    have : l.drop 16 = l.getD 16 0 :: l.drop 17 := by
      rw [List.drop_eq_getElem_cons (by omega : 16 < l.length), List.getD_eq_getElem?_getD, List.getElem?_eq_getElem (by omega : 16 < l.length)]
      rfl
    rw [this, leV_cons]; omega
  rw [h2, h3]
  unfold fold1
  rw [p16] at *
  unfold Q130
  generalize l.getD 16 0 % 4 = z at *
  generalize leV (l.drop 16) = D at *
  generalize leV (l.take 16) = T at *
  generalize highS l (l.length - 16) = S at *
  clear h3 h
  omega
end Go.Proofs.Ytfehhihllenjiaa
