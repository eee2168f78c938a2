/- A part of the proof about cellularlaw49.OrphanBalanced: lemmas only; what they say is theirs alone and no condition of the claim. -/
import Derived.Test.YtjdldndhbbkflaaGreatDoorAmH
import Derived.KernelRfl
set_option autoImplicit false
set_option linter.unusedVariables false
set_option linter.unusedSimpArgs false
set_option maxRecDepth 100000
noncomputable section
/-! plain facts about digits, the lowest first -/
namespace PB
def val (B : Nat) : List Nat → Nat
  | [] => 0
  | a :: l => a + B * val B l
def trimZ : List Nat → List Nat
  | [] => []
  | a :: l => if trimZ l = [] ∧ a = 0 then [] else a :: trimZ l
def dig (B : Nat) (v : Nat) : List Nat := if h : v = 0 ∨ B < 2 then [] else v % B :: dig B (v / B)
termination_by v
decreasing_by exact Nat.div_lt_self (by omega) (by omega)
theorem dig_zero (B : Nat) : dig B 0 = [] := by rw [dig]; simp
theorem dig_pos {B v : Nat} (hB : 2 ≤ B) (h : 0 < v) : dig B v = v % B :: dig B (v / B) := by
  rw [dig, dif_neg (by omega)]
theorem val_trimZ (B : Nat) : ∀ l, val B (trimZ l) = val B l
  | [] => rfl
  | a :: l => by
    have ih := val_trimZ B l
    simp only [trimZ]
    split
    · rename_i h; rw [h.1] at ih; simp only [val] at ih ⊢; rw [← ih, h.2]; simp
    · simp only [val, ih]
theorem trimZ_nil_val {B : Nat} : ∀ {l : List Nat}, trimZ l = [] → val B l = 0 := fun {l} h => by rw [← val_trimZ, h]; rfl
theorem trimZ_of_val {B : Nat} (hB : 2 ≤ B) : ∀ {l : List Nat}, val B l = 0 → trimZ l = []
  | [], _ => rfl
  | a :: l, h => by
    simp only [val] at h
    have h1 : a = 0 := by omega
    have h2 : val B l = 0 := by
      rcases Nat.eq_zero_or_pos (val B l) with h | h'
      · exact h
      · have : 0 < B * val B l := Nat.mul_pos (by omega) h'
        omega
    simp only [trimZ, trimZ_of_val hB h2, h1, and_self, if_true]
theorem dig_val {B : Nat} (hB : 2 ≤ B) : ∀ {l : List Nat}, (∀ d ∈ l, d < B) → dig B (val B l) = trimZ l
  | [], _ => by simp [val, dig_zero, trimZ]
  | a :: l, h => by
    have ih := dig_val hB (l := l) fun d hd => h d (List.mem_cons_of_mem _ hd)
    have ha : a < B := h a List.mem_cons_self
    simp only [val, trimZ]
    by_cases hz : a + B * val B l = 0
    · have h2 : val B l = 0 := by
        rcases Nat.eq_zero_or_pos (val B l) with h | h'
        · exact h
        · have : 0 < B * val B l := Nat.mul_pos (by omega) h'
          omega
      rw [hz, dig_zero, if_pos ⟨trimZ_of_val hB h2, by omega⟩]
    · rw [dig_pos hB (by omega)]
      have e1 : (a + B * val B l) % B = a := by rw [Nat.add_mul_mod_self_left, Nat.mod_eq_of_lt ha]
      have e2 : (a + B * val B l) / B = val B l := by rw [Nat.add_mul_div_left _ _ (by omega), Nat.div_eq_of_lt ha, Nat.zero_add]
      rw [e1, e2, ih, if_neg]
      rintro ⟨h1, h2⟩
      have := trimZ_nil_val (B := B) h1
      rw [this, h2] at hz; simp at hz
theorem val_dig {B : Nat} (hB : 2 ≤ B) (v : Nat) : val B (dig B v) = v := by
  induction v using Nat.strongRecOn with
  | _ v ih =>
    by_cases h : v = 0
    · subst h; rw [dig_zero]; rfl
    · rw [dig_pos hB (by omega), val, ih _ (Nat.div_lt_self (by omega) (by omega))]
      have := Nat.mod_add_div v B
      omega
theorem dig_lt {B : Nat} (hB : 2 ≤ B) (v : Nat) : ∀ d ∈ dig B v, d < B := by
  induction v using Nat.strongRecOn with
  | _ v ih =>
    by_cases h : v = 0
    · subst h; rw [dig_zero]; intro d hd; simp at hd
    · rw [dig_pos hB (by omega)]
      intro d hd
      rcases List.mem_cons.1 hd with rfl | hd
      · exact Nat.mod_lt _ (by omega)
      · exact ih _ (Nat.div_lt_self (by omega) (by omega)) d hd
theorem trimZ_dig {B : Nat} (hB : 2 ≤ B) (v : Nat) : trimZ (dig B v) = dig B v := by
  rw [← dig_val hB (dig_lt hB v), val_dig hB]
theorem trimZ_len : ∀ l, (trimZ l).length ≤ l.length
  | [] => Nat.le_refl _
  | a :: l => by
    have := trimZ_len l
    simp only [trimZ]
    split <;> simp <;> omega
theorem trimZ_lt {B : Nat} {l : List Nat} (h : ∀ d ∈ l, d < B) : ∀ d ∈ trimZ l, d < B := by
  induction l with
  | nil => exact h
  | cons a l ih =>
    intro d hd
    simp only [trimZ] at hd
    split at hd
    · simp at hd
    · rcases List.mem_cons.1 hd with rfl | hd
      · exact h d List.mem_cons_self
      · exact ih (fun d hd => h d (List.mem_cons_of_mem _ hd)) d hd
/-- how a loop from the top finds it -/
theorem trimZ_take : ∀ {l : List Nat} {k : Nat}, k ≤ l.length → (∀ j d, k ≤ j → l[j]? = some d → d = 0) → (k = 0 ∨ ∃ d, l[k - 1]? = some d ∧ d ≠ 0) → trimZ l = l.take k
  | [], k, hk, h1, h2 => by
    have : k = 0 := by simpa using hk
    subst this; rfl
  | a :: l, 0, hk, h1, h2 => by
    have ih := trimZ_take (l := l) (k := 0) (Nat.zero_le _) (fun j d _ h => h1 (j + 1) d (Nat.zero_le _) (by simpa using h)) (.inl rfl)
    have h0 := h1 0 a (Nat.zero_le _) rfl
    simp only [trimZ, ih, List.take_zero, h0, and_self, if_true]
  | a :: l, k + 1, hk, h1, h2 => by
    simp only [trimZ, List.take_succ_cons]
    by_cases hk0 : k = 0
    · subst hk0
      have ih := trimZ_take (l := l) (k := 0) (Nat.zero_le _) (fun j d _ h => h1 (j + 1) d (by omega) (by simpa using h)) (.inl rfl)
      rcases h2 with h2 | ⟨d, h2, h3⟩
      · omega
      · simp at h2; subst h2
        rw [ih, if_neg (fun h => h3 h.2)]
    · have ih := trimZ_take (l := l) (k := k) (by simpa using hk) (fun j d hj h => h1 (j + 1) d (by omega) (by simpa using h)) (.inr (by
        rcases h2 with h2 | ⟨d, h2, h3⟩
        · omega
        · refine ⟨d, ?_, h3⟩
          rw [show k + 1 - 1 = (k - 1) + 1 by omega] at h2
          simpa using h2))
      rw [ih, if_neg]
      rintro ⟨h3, _⟩
      have h4 : min k l.length = 0 := by rw [← List.length_take, h3]; rfl
      simp only [List.length_cons] at hk
      omega
theorem dig_len {B : Nat} (hB : 2 ≤ B) : ∀ (k v : Nat), v < B ^ k → (dig B v).length ≤ k
  | 0, v, h => by
    have : v = 0 := by simpa using h
    subst this; rw [dig_zero]; simp
  | k + 1, v, h => by
    by_cases hv : v = 0
    · subst hv; rw [dig_zero]; simp
    · rw [dig_pos hB (by omega)]
      have := dig_len hB k (v / B) (by rw [Nat.div_lt_iff_lt_mul (by omega)]; rw [Nat.pow_succ] at h; exact h)
      simp only [List.length_cons]; omega
theorem val_lt {B : Nat} : ∀ {l : List Nat}, (∀ d ∈ l, d < B) → val B l < B ^ l.length
  | [], _ => by simp [val]
  | a :: l, h => by
    have ih := val_lt (l := l) fun d hd => h d (List.mem_cons_of_mem _ hd)
    have ha := h a List.mem_cons_self
    simp only [val, List.length_cons, Nat.pow_succ]
    have h1 : B * (val B l + 1) ≤ B * B ^ l.length := Nat.mul_le_mul_left _ ih
    rw [Nat.mul_add] at h1
    rw [Nat.mul_comm (B ^ l.length)]
    omega
/-- the top digit is not 0 -/
theorem val_ge {B : Nat} (hB : 2 ≤ B) : ∀ {l : List Nat}, trimZ l = l → l ≠ [] → B ^ (l.length - 1) ≤ val B l
  | [], _, h => absurd rfl h
  | [a], h, _ => by
    simp only [trimZ, true_and] at h
    split at h
    · simp at h
    · simp [val]; omega
  | a :: b :: l, h, _ => by
    have h' : trimZ (b :: l) = b :: l := by
      rw [trimZ] at h
      split at h
      · simp at h
      · injection h
    have ih := val_ge hB h' (by simp)
    simp only [val, List.length_cons] at ih ⊢
    simp only [Nat.add_sub_cancel] at ih ⊢
    have h1 : B * B ^ l.length ≤ B * (b + B * val B l) := Nat.mul_le_mul_left _ ih
    rw [Nat.pow_succ, Nat.mul_comm]
    omega
theorem val_lt_len {B : Nat} (hB : 2 ≤ B) {l m : List Nat} (hl : ∀ d ∈ l, d < B) (hm : trimZ m = m) (h : l.length < m.length) : val B l < val B m := by
  have h1 := val_lt hl
  have h2 := val_ge hB hm (by intro e; subst e; simp at h)
  have h3 : B ^ l.length ≤ B ^ (m.length - 1) := Nat.pow_le_pow_right (by omega) (by omega)
  omega
theorem val_lt_at {B : Nat} : ∀ {l m : List Nat} {k a b : Nat}, (∀ d ∈ l, d < B) → l.length = m.length → (∀ j, k < j → l[j]? = m[j]?) → l[k]? = some a → m[k]? = some b → a < b → val B l < val B m
  | [], m, k, a, b, _, _, _, h, _, _ => by simp at h
  | c :: l, [], k, a, b, _, h, _, _, _, _ => by simp at h
  | c :: l, d :: m, 0, a, b, hl, hn, hj, ha, hb, hab => by
    simp at ha hb; subst ha hb
    have : l = m := List.ext_getElem? fun j => by have := hj (j + 1) (by omega); simpa using this
    subst this
    simp only [val]; omega
  | c :: l, d :: m, k + 1, a, b, hl, hn, hj, ha, hb, hab => by
    have ih := val_lt_at (l := l) (m := m) (k := k) (fun d hd => hl d (List.mem_cons_of_mem _ hd)) (by simpa using hn) (fun j hk => by have := hj (j + 1) (by omega); simpa using this) (by simpa using ha) (by simpa using hb) hab
    have hc := hl c List.mem_cons_self
    simp only [val]
    have h1 : B * (val B l + 1) ≤ B * val B m := Nat.mul_le_mul_left _ ih
    rw [Nat.mul_add] at h1
    omega
theorem top_ne : ∀ {l : List Nat} {d : Nat}, trimZ l = l → l[l.length - 1]? = some d → d ≠ 0
  | [], d, _, h => by simp at h
  | [a], d, h, hd => by
    simp only [trimZ, true_and] at h
    split at h
    · simp at h
    · simp at hd; subst hd; assumption
  | a :: b :: l, d, h, hd => by
    have h' : trimZ (b :: l) = b :: l := by
      rw [trimZ] at h
      split at h
      · simp at h
      · injection h
    refine top_ne h' ?_
    simp only [List.length_cons, Nat.add_sub_cancel] at hd ⊢
    simpa using hd
theorem val_append (B : Nat) : ∀ (l m : List Nat), val B (l ++ m) = val B l + B ^ l.length * val B m
  | [], m => by simp [val]
  | a :: l, m => by
    simp only [List.cons_append, val, val_append B l m, List.length_cons, Nat.pow_succ, Nat.mul_add]
    rw [Nat.mul_comm (B ^ l.length) B, Nat.mul_assoc]; omega
theorem val_zeros (B : Nat) : ∀ n, val B (List.replicate n 0) = 0
  | 0 => rfl
  | n + 1 => by simp [List.replicate_succ, val, val_zeros B n]
theorem val_take (B : Nat) (l : List Nat) (k : Nat) : val B (l.take k) + B ^ (min k l.length) * val B (l.drop k) = val B l := by
  conv => rhs; rw [← List.take_append_drop k l, val_append, List.length_take]
/-- sums, digit by digit: carry and digit at place k -/
def cry (B : Nat) (a b : List Nat) : Nat → Nat
  | 0 => 0
  | k + 1 => (a.getD k 0 + b.getD k 0 + cry B a b k) / B
def sdig (B : Nat) (a b : List Nat) (k : Nat) : Nat := (a.getD k 0 + b.getD k 0 + cry B a b k) % B
theorem val_take_succ (B : Nat) (l : List Nat) (k : Nat) : val B (l.take (k + 1)) = val B (l.take k) + B ^ k * l.getD k 0 := by
  by_cases h : k < l.length
  · rw [List.take_succ_eq_append_getElem h, val_append, List.length_take, Nat.min_eq_left (by omega)]
    simp [val, List.getD_eq_getElem?_getD, h]
  · rw [List.take_of_length_le (by omega), List.take_of_length_le (by omega), List.getD_eq_getElem?_getD, List.getElem?_eq_none (by omega)]
    simp
theorem sum_inv (B : Nat) (a b : List Nat) : ∀ n, val B ((List.range n).map (sdig B a b)) + B ^ n * cry B a b n = val B (a.take n) + val B (b.take n)
  | 0 => by simp [val, cry]
  | n + 1 => by
    have ih := sum_inv B a b n
    rw [List.range_succ, List.map_append, val_append, List.length_map, List.length_range, val_take_succ, val_take_succ, cry]
    simp only [List.map_cons, List.map_nil, val, Nat.mul_zero, Nat.add_zero]
    have e := Nat.mod_add_div (a.getD n 0 + b.getD n 0 + cry B a b n) B
    rw [Nat.pow_succ, Nat.mul_assoc]
    have h2 : B ^ n * sdig B a b n + B ^ n * (B * ((a.getD n 0 + b.getD n 0 + cry B a b n) / B)) = B ^ n * (a.getD n 0 + b.getD n 0 + cry B a b n) := by
      rw [← Nat.mul_add]; congr 1
    rw [Nat.mul_add, Nat.mul_add] at h2
    omega
theorem getD_lt {B : Nat} (hB : 0 < B) {a : List Nat} (h : ∀ d ∈ a, d < B) (k : Nat) : a.getD k 0 < B := by
  rw [List.getD_eq_getElem?_getD]
  cases e : a[k]? with
  | none => exact hB
  | some d => exact h d (List.mem_of_getElem? e)
theorem cry_le {B : Nat} (hB : 2 ≤ B) {a b : List Nat} (ha : ∀ d ∈ a, d < B) (hb : ∀ d ∈ b, d < B) : ∀ k, cry B a b k ≤ 1
  | 0 => by simp [cry]
  | k + 1 => by
    have ih := cry_le hB ha hb k
    have h1 := getD_lt (by omega) ha k
    have h2 := getD_lt (by omega) hb k
    rw [cry]
    have h3 : (a.getD k 0 + b.getD k 0 + cry B a b k) < 2 * B := by omega
    have := (Nat.div_lt_iff_lt_mul (show 0 < B by omega)).2 h3
    omega
/-- beyond both lists there is no carry -/
theorem cry_end {B : Nat} (hB : 2 ≤ B) {a b : List Nat} (ha : ∀ d ∈ a, d < B) (hb : ∀ d ∈ b, d < B) {n : Nat} (h1 : a.length < n) (h2 : b.length < n) : cry B a b n = 0 := by
  obtain ⟨m, rfl⟩ : ∃ m, n = m + 1 := ⟨n - 1, by omega⟩
  rw [cry, List.getD_eq_getElem?_getD, List.getD_eq_getElem?_getD, List.getElem?_eq_none (by omega), List.getElem?_eq_none (by omega)]
  have := cry_le hB ha hb m
  simp only [Option.getD_none]
  exact Nat.div_eq_of_lt (by omega)
theorem sum_val {B : Nat} (hB : 2 ≤ B) {a b : List Nat} (ha : ∀ d ∈ a, d < B) (hb : ∀ d ∈ b, d < B) {n : Nat} (h1 : a.length < n) (h2 : b.length < n) :
    val B ((List.range n).map (sdig B a b)) = val B a + val B b := by
  have := sum_inv B a b n
  rw [cry_end hB ha hb h1 h2, List.take_of_length_le (by omega), List.take_of_length_le (by omega)] at this
  omega
theorem sdig_lt {B : Nat} (hB : 2 ≤ B) (a b : List Nat) (n : Nat) : ∀ d ∈ (List.range n).map (sdig B a b), d < B := by
  intro d hd
  obtain ⟨k, _, rfl⟩ := List.mem_map.1 hd
  exact Nat.mod_lt _ (by omega)
end PB
namespace PB
/-! ## words and bytes -/
def b4 (d : Nat) : List Nat := [d % 256, d / 256 % 256, d / 65536 % 256, d / 16777216 % 256]
theorem val_b4 {d : Nat} (h : d < 4294967296) (l : List Nat) : val 256 (b4 d ++ l) = d + 4294967296 * val 256 l := by
  simp only [b4, List.cons_append, List.nil_append, val]; omega
theorem val_flat : ∀ {l : List Nat}, (∀ d ∈ l, d < 4294967296) → val 256 (l.flatMap b4) = val 4294967296 l
  | [], _ => rfl
  | d :: l, h => by
    rw [List.flatMap_cons, val_b4 (h d List.mem_cons_self), val, val_flat fun d hd => h d (List.mem_cons_of_mem _ hd)]
theorem flat_lt {l : List Nat} : ∀ d ∈ l.flatMap b4, d < 256 := by
  intro d hd
  obtain ⟨a, _, ha⟩ := List.mem_flatMap.1 hd
  simp only [b4, List.mem_cons, List.not_mem_nil, or_false] at ha
  omega
theorem flat_len (l : List Nat) : (l.flatMap b4).length = 4 * l.length := by
  induction l with
  | nil => rfl
  | cons d l ih => rw [List.flatMap_cons, List.length_append, ih]; simp [b4]; omega
theorem b4_take (d : Nat) {k : Nat} (h : k < 4) : (b4 d).take (k + 1) = (b4 d).take k ++ [d / 256 ^ k % 256] := by
  match k, h with
  | 0, _ => simp [b4]
  | 1, _ => simp [b4]
  | 2, _ => simp [b4]
  | 3, _ => simp [b4]
theorem flat_take {l : List Nat} {i d : Nat} (h : l[i]? = some d) : (l.take (i + 1)).flatMap b4 = (l.take i).flatMap b4 ++ b4 d := by
  obtain ⟨hi, rfl⟩ := List.getElem?_eq_some_iff.1 h
  rw [List.take_succ_eq_append_getElem hi, List.flatMap_append]; simp
/-- the word at place j, from its top byte on -/
def hv (m : List Nat) (j : Nat) : Nat → Nat
  | 0 => 0
  | r + 1 => hv m j r * 256 + m.getD (4 * j + (3 - r)) 0
theorem hv_lt {m : List Nat} (hm : ∀ d ∈ m, d < 256) (j : Nat) : ∀ r, hv m j r < 256 ^ r
  | 0 => by simp [hv]
  | r + 1 => by
    have := hv_lt hm j r
    have h2 := getD_lt (show 0 < 256 by decide) hm (4 * j + (3 - r))
    rw [hv, Nat.pow_succ]; omega
theorem hv4 (m : List Nat) (j : Nat) : hv m j 4 = m.getD (4 * j) 0 + 256 * (m.getD (4 * j + 1) 0 + 256 * (m.getD (4 * j + 2) 0 + 256 * m.getD (4 * j + 3) 0)) := by
  simp only [hv, Nat.add_zero]; simp only [show 3 - 0 = 3 from rfl, show 3 - 1 = 2 from rfl, show 3 - 2 = 1 from rfl, show 3 - 3 = 0 from rfl, Nat.add_zero]; omega
theorem val_words (m : List Nat) : ∀ J, val 4294967296 ((List.range J).map fun j => hv m j 4) = val 256 (m.take (4 * J))
  | 0 => rfl
  | J + 1 => by
    rw [List.range_succ, List.map_append, val_append, List.length_map, List.length_range, val_words m J]
    simp only [List.map_cons, List.map_nil, val, Nat.mul_zero, Nat.add_zero]
    rw [hv4, show 4 * (J + 1) = 4 * J + 1 + 1 + 1 + 1 by omega, val_take_succ, val_take_succ, val_take_succ, val_take_succ]
    have e : (4294967296 : Nat) ^ J = 256 ^ (4 * J) := by rw [show (4294967296 : Nat) = 256 ^ 4 by rfl, ← Nat.pow_mul]
    have p1 : (256 : Nat) ^ (4 * J + 1) = 256 ^ (4 * J) * 256 := Nat.pow_succ _ _
    have p2 : (256 : Nat) ^ (4 * J + 2) = 256 ^ (4 * J) * 256 * 256 := by rw [Nat.pow_succ, p1]
    have p3 : (256 : Nat) ^ (4 * J + 3) = 256 ^ (4 * J) * 256 * 256 * 256 := by rw [Nat.pow_succ, p2]
    rw [show 4 * J + 1 + 1 = 4 * J + 2 by omega, show 4 * J + 2 + 1 = 4 * J + 3 by omega, e, p1, p2, p3]
    simp only [Nat.mul_add, ← Nat.mul_assoc]
    omega
theorem getD_zero {l : List Nat} {j : Nat} (h : l.length ≤ j) : l.getD j 0 = 0 := by rw [List.getD_eq_getElem?_getD, List.getElem?_eq_none h]; rfl
/-- a list whose top digit is not 0 -/
theorem trimZ_id {l : List Nat} (h : l = [] ∨ ∃ d, l[l.length - 1]? = some d ∧ d ≠ 0) : trimZ l = l := by
  rcases h with rfl | ⟨d, hd, h0⟩
  · rfl
  · have := trimZ_take (l := l) (k := l.length) (Nat.le_refl _) (fun j e hj he => by have := (List.getElem?_eq_some_iff.1 he).1; omega) (.inr ⟨d, hd, h0⟩)
    rw [this, List.take_length]
theorem words_top {m : List Nat} (ht : trimZ m = m) {J : Nat} (h1 : 4 * (J - 1) < m.length ∨ J = 0) (h2 : m.length ≤ 4 * J) : trimZ ((List.range J).map fun j => hv m j 4) = (List.range J).map fun j => hv m j 4 := by
  apply trimZ_id
  by_cases hJ : J = 0
  · subst hJ; exact .inl rfl
  · right
    have hm : 4 * (J - 1) < m.length := by omega
    refine ⟨hv m (J - 1) 4, ?_, ?_⟩
    · simp only [List.length_map, List.length_range, List.getElem?_map]
      rw [List.getElem?_range (by omega)]; rfl
    · obtain ⟨d, hd⟩ : ∃ d, m[m.length - 1]? = some d := ⟨m[m.length - 1], List.getElem?_eq_getElem (by omega)⟩
      have h0 := top_ne ht hd
      have e : m.getD (m.length - 1) 0 = d := by rw [List.getD_eq_getElem?_getD, hd]; rfl
      rw [hv4]
      rcases (show m.length - 1 = 4 * (J - 1) ∨ m.length - 1 = 4 * (J - 1) + 1 ∨ m.length - 1 = 4 * (J - 1) + 2 ∨ m.length - 1 = 4 * (J - 1) + 3 by omega) with h | h | h | h <;> rw [h] at e <;> rw [e] <;> omega
theorem val_set (B : Nat) : ∀ (l : List Nat) (j e : Nat), j < l.length → val B (l.set j e) + B ^ j * l.getD j 0 = val B l + B ^ j * e
  | [], j, e, h => by simp at h
  | a :: l, 0, e, h => by simp [val]; omega
  | a :: l, j + 1, e, h => by
    have ih := val_set B l j e (by simpa using h)
    simp only [List.set_cons_succ, val, List.getD_cons_succ, Nat.pow_succ]
    have h2 : B * (val B (l.set j e) + B ^ j * l.getD j 0) = B * (val B l + B ^ j * e) := by rw [ih]
    simp only [Nat.mul_add, ← Nat.mul_assoc] at h2
    rw [Nat.mul_comm B (B ^ j)] at h2
    omega
end PB
namespace PB
/-- one step of a long multiplication -/
theorem mul_step {l m out : List Nat} {i k x y o c s : Nat} (hk : m.getD k 0 = y) (ho : out.getD (i + k) 0 = o) (hlen : i + k < out.length) (hs : s = o + x * y + c)
    (h : val 256 out + 256 ^ (i + k) * c = val 256 (l.take i) * val 256 m + 256 ^ i * x * val 256 (m.take k)) :
    val 256 (out.set (i + k) (s % 256)) + 256 ^ (i + (k + 1)) * (s / 256) = val 256 (l.take i) * val 256 m + 256 ^ i * x * val 256 (m.take (k + 1)) := by
  have h1 := val_set 256 out (i + k) (s % 256) hlen
  rw [ho] at h1
  have e1 : 256 ^ (i + (k + 1)) * (s / 256) = 256 ^ (i + k) * (256 * (s / 256)) := by rw [← Nat.add_assoc, Nat.pow_succ, Nat.mul_assoc]
  have e2 : 256 ^ i * x * (256 ^ k * y) = 256 ^ (i + k) * (x * y) := by rw [Nat.pow_add]; ac_rfl
  rw [val_take_succ, hk, Nat.mul_add, e1, e2]
  have e3 : 256 ^ (i + k) * (s % 256) + 256 ^ (i + k) * (256 * (s / 256)) = 256 ^ (i + k) * s := by rw [← Nat.mul_add, Nat.mod_add_div]
  have e4 : 256 ^ (i + k) * s = 256 ^ (i + k) * o + 256 ^ (i + k) * (x * y) + 256 ^ (i + k) * c := by rw [hs, Nat.mul_add, Nat.mul_add]
  omega
theorem mul_bound {l m out : List Nat} {i k x c : Nat} (hl : ∀ d ∈ l, d < 256) (hm : ∀ d ∈ m, d < 256) (hx : x < 256) (hi : i ≤ l.length) (hk : m.length + 1 ≤ k)
    (h : val 256 out + 256 ^ (i + k) * c = val 256 (l.take i) * val 256 m + 256 ^ i * x * val 256 (m.take k)) : c = 0 := by
  have h1 := val_lt (B := 256) (l := l.take i) fun d hd => hl d (List.mem_of_mem_take hd)
  have h2 := val_lt hm
  rw [List.length_take, Nat.min_eq_left hi] at h1
  have h7 : m.take k = m := List.take_of_length_le (by omega)
  rw [h7] at h
  have h3 : val 256 (l.take i) * val 256 m + 256 ^ i * x * val 256 m = (val 256 (l.take i) + 256 ^ i * x) * val 256 m := by rw [Nat.add_mul]
  have h4 : val 256 (l.take i) + 256 ^ i * x < 256 ^ i * 256 := by
    have : 256 ^ i * (x + 1) ≤ 256 ^ i * 256 := Nat.mul_le_mul_left _ (by omega)
    rw [Nat.mul_add] at this; omega
  have h5 : (val 256 (l.take i) + 256 ^ i * x) * val 256 m < 256 ^ (i + k) := by
    have a1 : (val 256 (l.take i) + 256 ^ i * x) * val 256 m ≤ 256 ^ i * 256 * val 256 m := Nat.mul_le_mul_right _ (Nat.le_of_lt h4)
    have a2 : 256 ^ i * 256 * val 256 m < 256 ^ i * 256 * 256 ^ m.length := Nat.mul_lt_mul_of_pos_left h2 (Nat.mul_pos (Nat.pow_pos (by decide)) (by decide))
    have a3 : 256 ^ i * 256 * 256 ^ m.length ≤ 256 ^ (i + k) := by
      rw [show 256 ^ i * 256 * 256 ^ m.length = 256 ^ (i + (m.length + 1)) by rw [Nat.pow_add, Nat.pow_succ]; ac_rfl]
      exact Nat.pow_le_pow_right (by decide) (by omega)
    omega
  rcases Nat.eq_zero_or_pos c with h6 | h6
  · exact h6
  · have : 256 ^ (i + k) * 1 ≤ 256 ^ (i + k) * c := Nat.mul_le_mul_left _ h6
    omega
end PB

namespace Go.Am.Seat
open Go Go.Am Go.Proofs
structure Pt where
  x : Int
  y : Int
def encPt (p : Pt) : List AV := [.int .i64 p.x, .int .i64 p.y]
theorem encPt_len (p : Pt) : (encPt p).length = 2 := rfl
def before (a b : Pt) : Bool := decide (a.y < b.y) || (a.y == b.y && decide (a.x < b.x))
theorem before_ok (a b : Pt) : PureR E.C 50 [.agg (encPt a), .agg (encPt b)] (fun r => r = .bool (before a b)) := by
  refine PureR.of_empty plain rfl ?_
  refine ACall.of_body E_ok.ok Tryz.func50 rfl (by kernel_rfl) ?_
  refine AWp.seq ?_
  refine AWp.region E_ok.ok ?_
  refine s_new rfl rfl (nv_box rfl rfl) ?_
  refine s_new rfl rfl (nv_box rfl rfl) ?_
  refine s_pure rfl rfl (pv_asg rfl) ?_
  refine s_nil ?_
  refine AWp.seq ?_
  refine AWp.region E_ok.ok ?_
  first | refine s_pure rfl rfl (pv_fld T53 rfl rfl T3 (by decide) rfl) ?_ | refine s_pure rfl rfl (pv_fldi T53 rfl rfl T3 (by decide) rfl) ?_
  first | refine s_imm rfl rfl (rv_loadi rfl (part_sc T3 rfl rfl)) ?_ | refine s_read rfl rfl (rv_load rfl) (rfl) (part_sc T3 rfl rfl) ?_
  first | refine s_pure rfl rfl (pv_fld T53 rfl rfl T3 (by decide) rfl) ?_ | refine s_pure rfl rfl (pv_fldi T53 rfl rfl T3 (by decide) rfl) ?_
  first | refine s_imm rfl rfl (rv_loadi rfl (part_sc T3 rfl rfl)) ?_ | refine s_read rfl rfl (rv_load rfl) (rfl) (part_sc T3 rfl rfl) ?_
  refine s_splitP rfl rfl (pv_int rfl rfl rfl) decide_eq_true_iff ?_ ?_
  · intro h1x4
    refine s_pure rfl rfl (pv_mov rfl) ?_
    refine s_skip rfl rfl ?_
    refine s_skip rfl rfl ?_
    refine s_skip rfl rfl ?_
    refine s_skip rfl rfl ?_
    refine s_skip rfl rfl ?_
    refine s_skip rfl rfl ?_
    refine s_skip rfl rfl ?_
    refine s_skip rfl rfl ?_
    refine s_skip rfl rfl ?_
    refine s_skip rfl rfl ?_
    refine s_skip rfl rfl ?_
    refine s_skip rfl rfl ?_
    first | refine s_pure rfl rfl (pv_pickT rfl rfl) ?_ | refine s_pure rfl rfl (pv_pickF rfl rfl) ?_
    refine s_pure rfl rfl (pv_asg rfl) ?_
    refine s_nil ?_
    refine AWp.ret ?_
    exact ⟨_, rfl, 1, _, rfl, by simp_all [before]⟩
  · intro h1x4
    refine s_pure rfl rfl (pv_mov rfl) ?_
    first | refine s_pure rfl rfl (pv_fld T53 rfl rfl T3 (by decide) rfl) ?_ | refine s_pure rfl rfl (pv_fldi T53 rfl rfl T3 (by decide) rfl) ?_
    first | refine s_imm rfl rfl (rv_loadi rfl (part_sc T3 rfl rfl)) ?_ | refine s_read rfl rfl (rv_load rfl) (rfl) (part_sc T3 rfl rfl) ?_
    first | refine s_pure rfl rfl (pv_fld T53 rfl rfl T3 (by decide) rfl) ?_ | refine s_pure rfl rfl (pv_fldi T53 rfl rfl T3 (by decide) rfl) ?_
    first | refine s_imm rfl rfl (rv_loadi rfl (part_sc T3 rfl rfl)) ?_ | refine s_read rfl rfl (rv_load rfl) (rfl) (part_sc T3 rfl rfl) ?_
    refine s_splitP rfl rfl (pv_int rfl rfl rfl) beq_iff_eq ?_ ?_
    · intro h1x10
      refine s_pure rfl rfl (pv_mov rfl) ?_
      first | refine s_pure rfl rfl (pv_fld T53 rfl rfl T3 (by decide) rfl) ?_ | refine s_pure rfl rfl (pv_fldi T53 rfl rfl T3 (by decide) rfl) ?_
      first | refine s_imm rfl rfl (rv_loadi rfl (part_sc T3 rfl rfl)) ?_ | refine s_read rfl rfl (rv_load rfl) (rfl) (part_sc T3 rfl rfl) ?_
      first | refine s_pure rfl rfl (pv_fld T53 rfl rfl T3 (by decide) rfl) ?_ | refine s_pure rfl rfl (pv_fldi T53 rfl rfl T3 (by decide) rfl) ?_
      first | refine s_imm rfl rfl (rv_loadi rfl (part_sc T3 rfl rfl)) ?_ | refine s_read rfl rfl (rv_load rfl) (rfl) (part_sc T3 rfl rfl) ?_
      refine s_splitP rfl rfl (pv_int rfl rfl rfl) decide_eq_true_iff ?_ ?_
      · intro h1x16
        first | refine s_pure rfl rfl (pv_pickT rfl rfl) ?_ | refine s_pure rfl rfl (pv_pickF rfl rfl) ?_
        first | refine s_pure rfl rfl (pv_pickT rfl rfl) ?_ | refine s_pure rfl rfl (pv_pickF rfl rfl) ?_
        refine s_pure rfl rfl (pv_asg rfl) ?_
        refine s_nil ?_
        refine AWp.ret ?_
        exact ⟨_, rfl, 1, _, rfl, by simp_all [before]⟩
      · intro h1x16
        first | refine s_pure rfl rfl (pv_pickT rfl rfl) ?_ | refine s_pure rfl rfl (pv_pickF rfl rfl) ?_
        first | refine s_pure rfl rfl (pv_pickT rfl rfl) ?_ | refine s_pure rfl rfl (pv_pickF rfl rfl) ?_
        refine s_pure rfl rfl (pv_asg rfl) ?_
        refine s_nil ?_
        refine AWp.ret ?_
        exact ⟨_, rfl, 1, _, rfl, by simp_all [before]⟩
    · intro h1x10
      refine s_pure rfl rfl (pv_mov rfl) ?_
      refine s_skip rfl rfl ?_
      refine s_skip rfl rfl ?_
      refine s_skip rfl rfl ?_
      refine s_skip rfl rfl ?_
      refine s_skip rfl rfl ?_
      first | refine s_pure rfl rfl (pv_pickT rfl rfl) ?_ | refine s_pure rfl rfl (pv_pickF rfl rfl) ?_
      first | refine s_pure rfl rfl (pv_pickT rfl rfl) ?_ | refine s_pure rfl rfl (pv_pickF rfl rfl) ?_
      refine s_pure rfl rfl (pv_asg rfl) ?_
      refine s_nil ?_
      refine AWp.ret ?_
      exact ⟨_, rfl, 1, _, rfl, by simp_all [before]⟩
def cmpI (a b : Int) : Int := if a < b then -1 else if a > b then 1 else 0
theorem isNaN_ok (a : Int) : PureR E.C 142 [.int .i64 a] (fun r => r = .bool false) := by
  refine PureR.of_empty plain rfl ?_
  refine ACall.of_body E_ok.ok Tryz.func142 rfl (by kernel_rfl) ?_
  refine AWp.seq ?_
  refine AWp.region E_ok.ok ?_
  refine s_pure rfl rfl (pv_asg rfl) ?_
  refine s_nil ?_
  refine AWp.seq ?_
  refine AWp.region E_ok.ok ?_
  refine s_pure rfl rfl (pv_mov rfl) ?_
  refine s_pure rfl rfl (pv_mov rfl) ?_
  refine s_splitP rfl rfl (pv_int rfl rfl rfl) bne_iff_ne ?_ ?_
  · intro h1x2
    refine s_pure rfl rfl (pv_asg rfl) ?_
    refine s_nil ?_
    refine AWp.ret ?_
    exact ⟨_, rfl, 1, _, rfl, by simp_all⟩
  · intro h1x2
    refine s_pure rfl rfl (pv_asg rfl) ?_
    refine s_nil ?_
    refine AWp.ret ?_
    exact ⟨_, rfl, 1, _, rfl, by simp_all⟩
theorem cmpI_ok (a b : Int) : PureR E.C 110 [.int .i64 a, .int .i64 b] (fun r => r = .int .i64 (cmpI a b)) := by
  refine PureR.of_empty plain rfl ?_
  refine ACall.of_body E_ok.ok Tryz.func110 rfl (by kernel_rfl) ?_
  refine AWp.seq ?_
  refine AWp.region E_ok.ok ?_
  refine s_pure rfl rfl (pv_asg rfl) ?_
  refine s_nil ?_
  refine AWp.seq ?_
  refine AWp.region E_ok.ok ?_
  refine s_pure rfl rfl (pv_mov rfl) ?_
  refine s_callp rfl rfl rfl (isNaN_ok _) ?_
  rintro _ rfl
  refine s_pure rfl rfl (pv_asg rfl) ?_
  refine s_nil ?_
  refine AWp.seq ?_
  refine AWp.region E_ok.ok ?_
  refine s_pure rfl rfl (pv_mov rfl) ?_
  refine s_callp rfl rfl rfl (isNaN_ok _) ?_
  rintro _ rfl
  refine s_pure rfl rfl (pv_asg rfl) ?_
  refine s_nil ?_
  refine AWp.seq ?_
  refine AWp.seq ?_
  refine AWp.region E_ok.ok ?_
  refine s_pure rfl rfl (pv_mov rfl) ?_
  refine s_nil ?_
  refine AWp.cond (b := false) rfl (fun h => by cases h) (fun _ => ?_)
  refine AWp.skip ?_
  refine AWp.seq ?_
  refine AWp.seq ?_
  refine AWp.region E_ok.ok ?_
  refine s_pure rfl rfl (pv_mov rfl) ?_
  refine s_nil ?_
  refine AWp.cond (b := false) rfl (fun h => by cases h) (fun _ => ?_)
  refine AWp.skip ?_
  refine AWp.seq ?_
  refine AWp.seq ?_
  refine AWp.region E_ok.ok ?_
  refine s_pure rfl rfl (pv_mov rfl) ?_
  refine s_pure rfl rfl (pv_mov rfl) ?_
  refine s_splitP rfl rfl (pv_int rfl rfl rfl) decide_eq_true_iff ?_ ?_
  · intro h9x2
    refine s_nil ?_
    refine AWp.cond (b := true) rfl (fun _ => ?_) (fun h => by cases h)
    refine AWp.seq ?_
    refine AWp.region E_ok.ok ?_
    refine s_pure rfl rfl (pv_asg rfl) ?_
    refine s_nil ?_
    refine AWp.ret ?_
    exact ⟨_, rfl, 1, _, rfl, by simp_all [cmpI] <;> omega⟩
  · intro h9x2
    refine s_nil ?_
    refine AWp.cond (b := false) rfl (fun h => by cases h) (fun _ => ?_)
    refine AWp.skip ?_
    refine AWp.seq ?_
    refine AWp.seq ?_
    refine AWp.region E_ok.ok ?_
    refine s_pure rfl rfl (pv_mov rfl) ?_
    refine s_pure rfl rfl (pv_mov rfl) ?_
    refine s_splitP rfl rfl (pv_int rfl rfl rfl) decide_eq_true_iff ?_ ?_
    · intro h11x2
      refine s_nil ?_
      refine AWp.cond (b := true) rfl (fun _ => ?_) (fun h => by cases h)
      refine AWp.seq ?_
      refine AWp.region E_ok.ok ?_
      refine s_pure rfl rfl (pv_asg rfl) ?_
      refine s_nil ?_
      refine AWp.ret ?_
      exact ⟨_, rfl, 1, _, rfl, by simp_all [cmpI] <;> omega⟩
    · intro h11x2
      refine s_nil ?_
      refine AWp.cond (b := false) rfl (fun h => by cases h) (fun _ => ?_)
      refine AWp.skip ?_
      refine AWp.seq ?_
      refine AWp.region E_ok.ok ?_
      refine s_pure rfl rfl (pv_asg rfl) ?_
      refine s_nil ?_
      refine AWp.ret ?_
      exact ⟨_, rfl, 1, _, rfl, by simp_all [cmpI] <;> omega⟩
def orI (l : List Int) : Int := (l.find? (· ≠ 0)).getD 0
theorem orI_first {l : List Int} {k : Nat} {a : Int} (h : ∀ j a, j < k → l[j]? = some a → a = 0) (ha : l[k]? = some a) (hn : a ≠ 0) : orI l = a := by
  unfold orI
  have : l.find? (· ≠ 0) = some a := by
    rw [List.find?_eq_some_iff_getElem]
    refine ⟨by simpa using hn, k, (List.getElem?_eq_some_iff.1 ha).1, (List.getElem?_eq_some_iff.1 ha).2, fun j hj => ?_⟩
    have hjl : j < l.length := by have := (List.getElem?_eq_some_iff.1 ha).1; omega
    have := h j l[j] hj (List.getElem?_eq_getElem hjl)
    simp [this]
  rw [this]; rfl
theorem orI_none {l : List Int} (h : ∀ (j : Nat) (a : Int), l[j]? = some a → a = 0) : orI l = 0 := by
  unfold orI
  have : l.find? (· ≠ 0) = none := by
    rw [List.find?_eq_none]
    intro x hx
    obtain ⟨j, hj⟩ := List.getElem?_of_mem hx
    simp [h j x hj]
  rw [this]; rfl
theorem orI_ok (l : List Int) (nl : Bool) (cap : Option Nat) (hl : l.length < 1000000) : PureR E.C 109 [.vec nl l.length cap (l.map (.int .i64))] (fun r => r = .int .i64 (orI l)) := by
  refine PureR.of_empty plain (by simp [noBlks, noBlk, noBlks_ints]) ?_
  refine ACall.of_body E_ok.ok Tryz.func109 rfl (by kernel_rfl) ?_
  refine AWp.seq ?_
  refine AWp.region E_ok.ok ?_
  refine s_pure rfl rfl (pv_asg rfl) ?_
  refine s_nil ?_
  refine AWp.seq ?_
  refine AWp.region E_ok.ok ?_
  refine s_pure rfl rfl (pv_asg rfl) ?_
  refine s_nil ?_
  refine AWp.seq ?_
  refine AWp.seq ?_
  refine AWp.region E_ok.ok ?_
  refine s_pure rfl rfl (pv_mov rfl) ?_
  first | refine s_pure rfl rfl (pv_len T29 rfl rfl) ?_ | refine s_pure rfl rfl (pv_len_sl T29 rfl rfl) ?_
  refine s_pure rfl rfl (pv_mov rfl) ?_
  refine s_nil ?_
  refine AWp.block ?_
  refine AWp.loop (σ := {s : Nat × AH // s.1 ≤ l.length ∧ ∀ j a, j < s.1 → l[j]? = some a → a = 0}) (fun s => frL 18 [(3, .int .i64 0), (6, .vec nl l.length cap (l.map (.int .i64))), (7, .int .i64 l.length), (8, .int .i64 s.1.1)]) (fun s => s.1.2) (fun s => l.length - s.1.1) ⟨(0, AH.empty), by simp⟩ (Weak.frL rfl ⟨rfl, rfl, rfl, rfl, trivial⟩) ?_
  rintro ⟨⟨k, A⟩, hk, hinv⟩
  dsimp only at hk hinv ⊢
  refine AWp.seq ?_
  refine AWp.region E_ok.ok ?_
  refine s_splitP rfl rfl (pv_int rfl rfl rfl) decide_eq_true_iff ?_ ?_
  · intro h3x0
    have hlt : k < l.length := by omega
    obtain ⟨a, ha⟩ := get_some hlt
    have hkk : (k : Int) = k := rfl
    refine s_nil ?_
    refine AWp.seq ?_
    refine AWp.cond (b := true) rfl (fun _ => ?_) (fun h => by cases h)
    refine AWp.skip ?_
    refine AWp.seq ?_
    refine AWp.block ?_
    refine AWp.seq ?_
    refine AWp.region E_ok.ok ?_
    first | refine s_pure rfl rfl (pv_idx T29 rfl T3 rfl rfl (by omega) (by omega) (drop_map hkk ha)) ?_ | refine s_pure rfl rfl (pv_idx_sl T29 rfl T3 rfl rfl (by omega) (by omega)) ?_
    first | refine s_imm rfl rfl (rv_loadi rfl (part_sc T3 rfl rfl)) ?_ | refine s_read rfl rfl (rv_load rfl) (rfl) (part_sc T3 rfl rfl) ?_
    refine s_pure rfl rfl (pv_asg rfl) ?_
    refine s_nil ?_
    refine AWp.seq ?_
    refine AWp.region E_ok.ok ?_
    refine s_pure rfl rfl (pv_mov rfl) ?_
    refine s_pure rfl rfl (pv_mov rfl) ?_
    refine s_splitP rfl rfl (pv_int rfl rfl rfl) bne_iff_ne ?_ ?_
    · intro h5x2
      refine s_nil ?_
      refine AWp.cond (b := true) rfl (fun _ => ?_) (fun h => by cases h)
      refine AWp.seq ?_
      refine AWp.region E_ok.ok ?_
      refine s_pure rfl rfl (pv_mov rfl) ?_
      refine s_pure rfl rfl (pv_asg rfl) ?_
      refine s_nil ?_
      refine AWp.ret ?_
      exact ⟨_, rfl, 1, _, rfl, by rw [orI_first hinv ha h5x2]⟩
    · intro h5x2
      refine s_nil ?_
      refine AWp.cond (b := false) rfl (fun h => by cases h) (fun _ => ?_)
      refine AWp.skip ?_
      refine AWp.region E_ok.ok ?_
      refine s_pure rfl rfl (pv_add rfl rfl (by omega) (by omega)) ?_
      refine s_pure rfl rfl (pv_mov rfl) ?_
      refine s_nil ?_
      refine ⟨⟨(k + 1, A), by omega, fun j a' hj h => ?_⟩, by dsimp only; omega, Weak.frL rfl ⟨rfl, rfl, rfl, rfl, trivial⟩⟩
      by_cases e : j = k
      · subst e; rw [ha] at h; cases h; exact Classical.not_not.1 h5x2
      · exact hinv j a' (by dsimp only at hj; omega) h
  · intro h3x0
    refine s_nil ?_
    refine AWp.seq ?_
    refine AWp.cond (b := false) rfl (fun h => by cases h) (fun _ => ?_)
    refine AWp.exit ?_
    refine AWp.seq ?_
    refine AWp.region E_ok.ok ?_
    refine s_pure rfl rfl (pv_mov rfl) ?_
    refine s_pure rfl rfl (pv_asg rfl) ?_
    refine s_nil ?_
    refine AWp.ret ?_
    exact ⟨_, rfl, 1, _, rfl, by rw [orI_none (fun j a h => hinv j a (by have := (List.getElem?_eq_some_iff.1 h).1; omega) h)]⟩
end Go.Am.Seat


namespace Go.Am.Seat
open Go Go.Am Go.Proofs
def ptCmp (a b : Pt) : Int := orI [cmpI a.y b.y, cmpI a.x b.x]
theorem ptCmp_ok (a b : Pt) : PureR E.C 76 [.agg (encPt a), .agg (encPt b)] (fun r => r = .int .i64 (ptCmp a b)) := by
  refine PureR.of_empty plain rfl ?_
  refine ACall.of_body E_ok.ok Tryz.func76 rfl (by kernel_rfl) ?_
  refine AWp.seq ?_
  refine AWp.region E_ok.ok ?_
  refine s_new rfl rfl (nv_box rfl rfl) ?_
  refine s_new rfl rfl (nv_box rfl rfl) ?_
  refine s_pure rfl rfl (pv_asg rfl) ?_
  refine s_nil ?_
  refine AWp.seq ?_
  refine AWp.drawq E_ok.ok (ord := [0, 1, 2, 3, 5, 6, 7, 8, 4, 9, 10, 11, 12]) (by kernel_rfl) ?_
  first | refine q_pure rfl rfl rfl rfl (pv_fld T53 rfl rfl T3 (by decide) rfl) ?_ | refine q_pure rfl rfl rfl rfl (pv_fldi T53 rfl rfl T3 (by decide) rfl) ?_
  first | refine q_imm rfl rfl rfl rfl (rv_loadi rfl (part_sc T3 rfl rfl)) ?_ | refine q_read rfl rfl rfl rfl (rv_load rfl) (rfl) (part_sc T3 rfl rfl) ?_
  first | refine q_pure rfl rfl rfl rfl (pv_fld T53 rfl rfl T3 (by decide) rfl) ?_ | refine q_pure rfl rfl rfl rfl (pv_fldi T53 rfl rfl T3 (by decide) rfl) ?_
  first | refine q_imm rfl rfl rfl rfl (rv_loadi rfl (part_sc T3 rfl rfl)) ?_ | refine q_read rfl rfl rfl rfl (rv_load rfl) (rfl) (part_sc T3 rfl rfl) ?_
  first | refine q_pure rfl rfl rfl rfl (pv_fld T53 rfl rfl T3 (by decide) rfl) ?_ | refine q_pure rfl rfl rfl rfl (pv_fldi T53 rfl rfl T3 (by decide) rfl) ?_
  first | refine q_imm rfl rfl rfl rfl (rv_loadi rfl (part_sc T3 rfl rfl)) ?_ | refine q_read rfl rfl rfl rfl (rv_load rfl) (rfl) (part_sc T3 rfl rfl) ?_
  first | refine q_pure rfl rfl rfl rfl (pv_fld T53 rfl rfl T3 (by decide) rfl) ?_ | refine q_pure rfl rfl rfl rfl (pv_fldi T53 rfl rfl T3 (by decide) rfl) ?_
  first | refine q_imm rfl rfl rfl rfl (rv_loadi rfl (part_sc T3 rfl rfl)) ?_ | refine q_read rfl rfl rfl rfl (rv_load rfl) (rfl) (part_sc T3 rfl rfl) ?_
  refine q_callp rfl rfl rfl rfl rfl (cmpI_ok _ _) ?_
  rintro _ rfl
  refine q_callp rfl rfl rfl rfl rfl (cmpI_ok _ _) ?_
  rintro _ rfl
  refine q_new rfl rfl rfl rfl (nv_bs T29 rfl T3 ⟨by decide, rfl⟩ rfl rfl rfl) ?_
  refine q_call rfl rfl rfl rfl (by kernel_rfl) (by kernel_rfl) rfl (PureR.lend plain (orI_ok [cmpI a.y b.y, cmpI a.x b.x] false (some 2) (show 2 < 1000000 by decide)) (k := 3) (by kernel_rfl) (by rintro _ rfl; rfl)) ?_
  rintro _ _ ⟨rfl, rfl⟩
  refine q_pure rfl rfl rfl rfl (pv_asg rfl) ?_
  first | refine q_nil0 ?_ | refine q_nil ?_
  refine AWp.ret ?_
  exact ⟨_, rfl, 1, _, rfl, rfl⟩
/-- a slice that is only read: no array, its capacity where it is known, its elements -/
structure Sl (α : Type) where
  nl : Bool
  cap : Option Nat
  l : List α
def Sl.av {α : Type} (s : Sl α) (f : α → List AV) : AV := .vec s.nl s.l.length s.cap (s.l.flatMap f)
def inBox (p : Pt) : Prop := -2 ≤ p.x ∧ p.x ≤ 2 ∧ -2 ≤ p.y ∧ p.y ≤ 2
def HoodOk (l : List Pt) : Prop := 1 ≤ l.length ∧ l.length ≤ 25 ∧ ∀ (k : Nat) (p : Pt), l[k]? = some p → inBox p ∧ ∀ q : Pt, 0 < k → l[k - 1]? = some q → before q p = true
theorem ptCmp_lt (a b : Pt) : ¬ ptCmp a b ≥ 0 ↔ before a b = true := by
  have e : ∀ u v : Int, orI [u, v] = if u ≠ 0 then u else v := by
    intro u v
    by_cases h : u = 0 <;> by_cases h2 : v = 0 <;> simp [orI, List.find?, h, h2]
  simp only [ptCmp, e, before, Bool.or_eq_true, Bool.and_eq_true, decide_eq_true_iff, beq_iff_eq]
  unfold cmpI
  by_cases h1 : a.y < b.y
  · simp [h1]
  · by_cases h2 : b.y < a.y
    · simp [h1, h2]; omega
    · have : a.y = b.y := by omega
      by_cases h4 : a.x < b.x
      · simp [this, h4]
      · by_cases h5 : b.x < a.x <;> simp [this, h4, h5]
def HoodPre (l : List Pt) (n : Nat) : Prop := ∀ (k : Nat) (p : Pt), k < n → l[k]? = some p → inBox p ∧ ∀ q : Pt, 0 < k → l[k - 1]? = some q → before q p = true
theorem HoodPre.step {l : List Pt} {k : Nat} {p : Pt} (h : HoodPre l k) (hp : l[k]? = some p) (hb : inBox p) (hq : ∀ q : Pt, 0 < k → l[k - 1]? = some q → before q p = true) : HoodPre l (k + 1) := by
  intro j q hj hq'
  by_cases e : j = k
  · subst e; rw [hp] at hq'; cases hq'; exact ⟨hb, hq⟩
  · exact h j q (by omega) hq'
theorem hood_ok (s : Sl Pt) (hl : s.l.length ≤ 9223372036854775807) : PureR E.C 53 [s.av encPt] (fun r => r = .bool (tb (HoodOk s.l))) := by
  obtain ⟨nl, cap, l⟩ := s
  dsimp only [Sl.av] at hl ⊢
  refine PureR.of_empty plain (by simp [noBlks, noBlk, Sl.av, noBlks_flat (f := encPt) (fun _ => rfl)]) ?_
  refine ACall.of_body E_ok.ok Tryz.func53 rfl (by kernel_rfl) ?_
  refine AWp.seq ?_
  refine AWp.region E_ok.ok ?_
  refine s_pure rfl rfl (pv_asg rfl) ?_
  refine s_nil ?_
  refine AWp.seq ?_
  refine AWp.seq ?_
  refine AWp.region E_ok.ok ?_
  refine s_pure rfl rfl (pv_mov rfl) ?_
  first | refine s_pure rfl rfl (pv_len T22 rfl rfl) ?_ | refine s_pure rfl rfl (pv_len_sl T22 rfl rfl) ?_
  refine s_splitP rfl rfl (pv_int rfl rfl rfl) decide_eq_true_iff ?_ ?_
  · intro h1x2
    refine s_pure rfl rfl (pv_mov rfl) ?_
    refine s_skip rfl rfl ?_
    refine s_skip rfl rfl ?_
    refine s_skip rfl rfl ?_
    first | refine s_pure rfl rfl (pv_pickT rfl rfl) ?_ | refine s_pure rfl rfl (pv_pickF rfl rfl) ?_
    refine s_nil ?_
    refine AWp.cond (b := true) rfl (fun _ => ?_) (fun h => by cases h)
    refine AWp.seq ?_
    refine AWp.region E_ok.ok ?_
    refine s_pure rfl rfl (pv_asg rfl) ?_
    refine s_nil ?_
    refine AWp.ret ?_
    refine ⟨_, rfl, 1, _, rfl, ?_⟩
    show AV.bool false = _
    rw [tb_false]
    intro H
    first | (have := H.1; have := H.2.1; omega) | (have := H.2.2 k p hp; obtain ⟨⟨_, _, _, _⟩, h5⟩ := this; first | omega | exact absurd (h5 q (by omega) hq) (fun h => absurd h6x29 ((ptCmp_lt q p).2 h)))
  · intro h1x2
    refine s_pure rfl rfl (pv_mov rfl) ?_
    refine s_pure rfl rfl (pv_mov rfl) ?_
    first | refine s_pure rfl rfl (pv_len T22 rfl rfl) ?_ | refine s_pure rfl rfl (pv_len_sl T22 rfl rfl) ?_
    refine s_splitP rfl rfl (pv_int rfl rfl rfl) decide_eq_true_iff ?_ ?_
    · intro h1x6
      first | refine s_pure rfl rfl (pv_pickT rfl rfl) ?_ | refine s_pure rfl rfl (pv_pickF rfl rfl) ?_
      refine s_nil ?_
      refine AWp.cond (b := true) rfl (fun _ => ?_) (fun h => by cases h)
      refine AWp.seq ?_
      refine AWp.region E_ok.ok ?_
      refine s_pure rfl rfl (pv_asg rfl) ?_
      refine s_nil ?_
      refine AWp.ret ?_
      refine ⟨_, rfl, 1, _, rfl, ?_⟩
      show AV.bool false = _
      rw [tb_false]
      intro H
      first | (have := H.1; have := H.2.1; omega) | (have := H.2.2 k p hp; obtain ⟨⟨_, _, _, _⟩, h5⟩ := this; first | omega | exact absurd (h5 q (by omega) hq) (fun h => absurd h6x29 ((ptCmp_lt q p).2 h)))
    · intro h1x6
      first | refine s_pure rfl rfl (pv_pickT rfl rfl) ?_ | refine s_pure rfl rfl (pv_pickF rfl rfl) ?_
      refine s_nil ?_
      refine AWp.cond (b := false) rfl (fun h => by cases h) (fun _ => ?_)
      refine AWp.skip ?_
      refine AWp.seq ?_
      refine AWp.seq ?_
      refine AWp.region E_ok.ok ?_
      refine s_pure rfl rfl (pv_mov rfl) ?_
      first | refine s_pure rfl rfl (pv_len T22 rfl rfl) ?_ | refine s_pure rfl rfl (pv_len_sl T22 rfl rfl) ?_
      refine s_pure rfl rfl (pv_mov rfl) ?_
      refine s_nil ?_
      refine AWp.block ?_
      refine AWp.loop (σ := {s : Nat × AH // s.1 ≤ l.length ∧ HoodPre l s.1}) (fun s => frL 53 [(0, .vec nl l.length cap (l.flatMap encPt)), (13, .vec nl l.length cap (l.flatMap encPt)), (14, .int .i64 l.length), (15, .int .i64 s.1.1)]) (fun s => s.1.2) (fun s => l.length - s.1.1) ⟨(0, AH.empty), by simp, fun k p h => by simp at h⟩ (Weak.frL rfl ⟨rfl, rfl, rfl, rfl, trivial⟩) ?_
      rintro ⟨⟨k, A⟩, hk, hinv⟩
      dsimp only at hk hinv ⊢
      refine AWp.seq ?_
      refine AWp.region E_ok.ok ?_
      refine s_splitP rfl rfl (pv_int rfl rfl rfl) decide_eq_true_iff ?_ ?_
      · intro h4x0
        have hlt : k < l.length := by omega
        obtain ⟨p, hp⟩ := get_some hlt
        have hkk : (k : Int) = k := rfl
        refine s_nil ?_
        refine AWp.seq ?_
        refine AWp.cond (b := true) rfl (fun _ => ?_) (fun h => by cases h)
        refine AWp.skip ?_
        refine AWp.seq ?_
        refine AWp.block ?_
        refine AWp.seq ?_
        refine AWp.region E_ok.ok ?_
        refine s_pure rfl rfl (pv_mov rfl) ?_
        first | refine s_pure rfl rfl (pv_idx T22 rfl T53 rfl rfl (by omega) (by omega) (drop_encI encPt_len hkk hp)) ?_ | refine s_pure rfl rfl (pv_idx_sl T22 rfl T53 rfl rfl (by omega) (by omega)) ?_
        first | refine s_imm rfl rfl (rv_loadi rfl (part_agg T53 rfl rfl rfl)) ?_ | refine s_read rfl rfl (rv_load rfl) (AH.get_put_self _ _ _) (part_agg T53 rfl rfl rfl) ?_
        refine s_new rfl rfl (nv_alloc T53 rfl) ?_
        refine s_pure rfl rfl (pv_asg rfl) ?_
        refine s_eff rfl rfl (ev_store T53 rfl rfl (by intro vs h; cases h) (AH.get_alloc_self _ _) rfl (by first | exact Nat.le_of_ble_eq_true rfl | (simp; omega)) rfl) ?_
        refine s_nil ?_
        refine AWp.seq ?_
        refine AWp.drawq E_ok.ok (ord := [0, 1, 2, 3, 4, 5, 6, 7, 8, 9, 10, 11, 12, 13, 14, 15, 16, 17, 18, 19, 20, 21, 22, 23, 24, 25, 26, 27, 28, 29, 30, 31]) (by kernel_rfl) ?_
        first | refine q_pure rfl rfl rfl rfl (pv_fld T53 rfl rfl T3 (by decide) rfl) ?_ | refine q_pure rfl rfl rfl rfl (pv_fldi T53 rfl rfl T3 (by decide) rfl) ?_
        first | refine q_imm rfl rfl rfl rfl (rv_loadi rfl (part_sc T3 rfl rfl)) ?_ | refine q_read rfl rfl rfl rfl (rv_load rfl) (AH.get_put_self _ _ _) (part_sc T3 rfl rfl) ?_
        refine q_splitP rfl rfl rfl rfl (pv_int rfl rfl rfl) decide_eq_true_iff ?_ ?_
        · intro h6x2
          refine q_pure rfl rfl rfl rfl (pv_mov rfl) ?_
          refine q_skip rfl rfl rfl ?_
          refine q_skip rfl rfl rfl ?_
          refine q_skip rfl rfl rfl ?_
          first | refine q_pure rfl rfl rfl rfl (pv_pickT rfl rfl) ?_ | refine q_pure rfl rfl rfl rfl (pv_pickF rfl rfl) ?_
          refine q_pure rfl rfl rfl rfl (pv_mov rfl) ?_
          refine q_skip rfl rfl rfl ?_
          refine q_skip rfl rfl rfl ?_
          refine q_skip rfl rfl rfl ?_
          first | refine q_pure rfl rfl rfl rfl (pv_pickT rfl rfl) ?_ | refine q_pure rfl rfl rfl rfl (pv_pickF rfl rfl) ?_
          refine q_pure rfl rfl rfl rfl (pv_mov rfl) ?_
          refine q_skip rfl rfl rfl ?_
          refine q_skip rfl rfl rfl ?_
          refine q_skip rfl rfl rfl ?_
          first | refine q_pure rfl rfl rfl rfl (pv_pickT rfl rfl) ?_ | refine q_pure rfl rfl rfl rfl (pv_pickF rfl rfl) ?_
          refine q_pure rfl rfl rfl rfl (pv_mov rfl) ?_
          refine q_skip rfl rfl rfl ?_
          refine q_skip rfl rfl rfl ?_
          refine q_skip rfl rfl rfl ?_
          refine q_skip rfl rfl rfl ?_
          refine q_skip rfl rfl rfl ?_
          refine q_skip rfl rfl rfl ?_
          refine q_skip rfl rfl rfl ?_
          refine q_skip rfl rfl rfl ?_
          refine q_skip rfl rfl rfl ?_
          refine q_skip rfl rfl rfl ?_
          refine q_skip rfl rfl rfl ?_
          refine q_skip rfl rfl rfl ?_
          first | refine q_pure rfl rfl rfl rfl (pv_pickT rfl rfl) ?_ | refine q_pure rfl rfl rfl rfl (pv_pickF rfl rfl) ?_
          first | refine q_nil0 ?_ | refine q_nil ?_
          refine AWp.cond (b := true) rfl (fun _ => ?_) (fun h => by cases h)
          refine AWp.seq ?_
          refine AWp.region E_ok.ok ?_
          refine s_pure rfl rfl (pv_asg rfl) ?_
          refine s_nil ?_
          refine AWp.ret ?_
          refine ⟨_, rfl, 1, _, rfl, ?_⟩
          show AV.bool false = _
          rw [tb_false]
          intro H
          first | (have := H.1; have := H.2.1; omega) | (have := H.2.2 k p hp; obtain ⟨⟨_, _, _, _⟩, h5⟩ := this; first | omega | exact absurd (h5 q (by omega) hq) (fun h => absurd h6x29 ((ptCmp_lt q p).2 h)))
        · intro h6x2
          refine q_pure rfl rfl rfl rfl (pv_mov rfl) ?_
          first | refine q_pure rfl rfl rfl rfl (pv_fld T53 rfl rfl T3 (by decide) rfl) ?_ | refine q_pure rfl rfl rfl rfl (pv_fldi T53 rfl rfl T3 (by decide) rfl) ?_
          first | refine q_imm rfl rfl rfl rfl (rv_loadi rfl (part_sc T3 rfl rfl)) ?_ | refine q_read rfl rfl rfl rfl (rv_load rfl) (AH.get_put_self _ _ _) (part_sc T3 rfl rfl) ?_
          refine q_splitP rfl rfl rfl rfl (pv_int rfl rfl rfl) decide_eq_true_iff ?_ ?_
          · intro h6x6
            first | refine q_pure rfl rfl rfl rfl (pv_pickT rfl rfl) ?_ | refine q_pure rfl rfl rfl rfl (pv_pickF rfl rfl) ?_
            refine q_pure rfl rfl rfl rfl (pv_mov rfl) ?_
            refine q_skip rfl rfl rfl ?_
            refine q_skip rfl rfl rfl ?_
            refine q_skip rfl rfl rfl ?_
            first | refine q_pure rfl rfl rfl rfl (pv_pickT rfl rfl) ?_ | refine q_pure rfl rfl rfl rfl (pv_pickF rfl rfl) ?_
            refine q_pure rfl rfl rfl rfl (pv_mov rfl) ?_
            refine q_skip rfl rfl rfl ?_
            refine q_skip rfl rfl rfl ?_
            refine q_skip rfl rfl rfl ?_
            first | refine q_pure rfl rfl rfl rfl (pv_pickT rfl rfl) ?_ | refine q_pure rfl rfl rfl rfl (pv_pickF rfl rfl) ?_
            refine q_pure rfl rfl rfl rfl (pv_mov rfl) ?_
            refine q_skip rfl rfl rfl ?_
            refine q_skip rfl rfl rfl ?_
            refine q_skip rfl rfl rfl ?_
            refine q_skip rfl rfl rfl ?_
            refine q_skip rfl rfl rfl ?_
            refine q_skip rfl rfl rfl ?_
            refine q_skip rfl rfl rfl ?_
            refine q_skip rfl rfl rfl ?_
            refine q_skip rfl rfl rfl ?_
            refine q_skip rfl rfl rfl ?_
            refine q_skip rfl rfl rfl ?_
            refine q_skip rfl rfl rfl ?_
            first | refine q_pure rfl rfl rfl rfl (pv_pickT rfl rfl) ?_ | refine q_pure rfl rfl rfl rfl (pv_pickF rfl rfl) ?_
            first | refine q_nil0 ?_ | refine q_nil ?_
            refine AWp.cond (b := true) rfl (fun _ => ?_) (fun h => by cases h)
            refine AWp.seq ?_
            refine AWp.region E_ok.ok ?_
            refine s_pure rfl rfl (pv_asg rfl) ?_
            refine s_nil ?_
            refine AWp.ret ?_
            refine ⟨_, rfl, 1, _, rfl, ?_⟩
            show AV.bool false = _
            rw [tb_false]
            intro H
            first | (have := H.1; have := H.2.1; omega) | (have := H.2.2 k p hp; obtain ⟨⟨_, _, _, _⟩, h5⟩ := this; first | omega | exact absurd (h5 q (by omega) hq) (fun h => absurd h6x29 ((ptCmp_lt q p).2 h)))
          · intro h6x6
            first | refine q_pure rfl rfl rfl rfl (pv_pickT rfl rfl) ?_ | refine q_pure rfl rfl rfl rfl (pv_pickF rfl rfl) ?_
            refine q_pure rfl rfl rfl rfl (pv_mov rfl) ?_
            first | refine q_pure rfl rfl rfl rfl (pv_fld T53 rfl rfl T3 (by decide) rfl) ?_ | refine q_pure rfl rfl rfl rfl (pv_fldi T53 rfl rfl T3 (by decide) rfl) ?_
            first | refine q_imm rfl rfl rfl rfl (rv_loadi rfl (part_sc T3 rfl rfl)) ?_ | refine q_read rfl rfl rfl rfl (rv_load rfl) (AH.get_put_self _ _ _) (part_sc T3 rfl rfl) ?_
            refine q_splitP rfl rfl rfl rfl (pv_int rfl rfl rfl) decide_eq_true_iff ?_ ?_
            · intro h6x11
              first | refine q_pure rfl rfl rfl rfl (pv_pickT rfl rfl) ?_ | refine q_pure rfl rfl rfl rfl (pv_pickF rfl rfl) ?_
              refine q_pure rfl rfl rfl rfl (pv_mov rfl) ?_
              refine q_skip rfl rfl rfl ?_
              refine q_skip rfl rfl rfl ?_
              refine q_skip rfl rfl rfl ?_
              first | refine q_pure rfl rfl rfl rfl (pv_pickT rfl rfl) ?_ | refine q_pure rfl rfl rfl rfl (pv_pickF rfl rfl) ?_
              refine q_pure rfl rfl rfl rfl (pv_mov rfl) ?_
              refine q_skip rfl rfl rfl ?_
              refine q_skip rfl rfl rfl ?_
              refine q_skip rfl rfl rfl ?_
              refine q_skip rfl rfl rfl ?_
              refine q_skip rfl rfl rfl ?_
              refine q_skip rfl rfl rfl ?_
              refine q_skip rfl rfl rfl ?_
              refine q_skip rfl rfl rfl ?_
              refine q_skip rfl rfl rfl ?_
              refine q_skip rfl rfl rfl ?_
              refine q_skip rfl rfl rfl ?_
              refine q_skip rfl rfl rfl ?_
              first | refine q_pure rfl rfl rfl rfl (pv_pickT rfl rfl) ?_ | refine q_pure rfl rfl rfl rfl (pv_pickF rfl rfl) ?_
              first | refine q_nil0 ?_ | refine q_nil ?_
              refine AWp.cond (b := true) rfl (fun _ => ?_) (fun h => by cases h)
              refine AWp.seq ?_
              refine AWp.region E_ok.ok ?_
              refine s_pure rfl rfl (pv_asg rfl) ?_
              refine s_nil ?_
              refine AWp.ret ?_
              refine ⟨_, rfl, 1, _, rfl, ?_⟩
              show AV.bool false = _
              rw [tb_false]
              intro H
              first | (have := H.1; have := H.2.1; omega) | (have := H.2.2 k p hp; obtain ⟨⟨_, _, _, _⟩, h5⟩ := this; first | omega | exact absurd (h5 q (by omega) hq) (fun h => absurd h6x29 ((ptCmp_lt q p).2 h)))
            · intro h6x11
              first | refine q_pure rfl rfl rfl rfl (pv_pickT rfl rfl) ?_ | refine q_pure rfl rfl rfl rfl (pv_pickF rfl rfl) ?_
              refine q_pure rfl rfl rfl rfl (pv_mov rfl) ?_
              first | refine q_pure rfl rfl rfl rfl (pv_fld T53 rfl rfl T3 (by decide) rfl) ?_ | refine q_pure rfl rfl rfl rfl (pv_fldi T53 rfl rfl T3 (by decide) rfl) ?_
              first | refine q_imm rfl rfl rfl rfl (rv_loadi rfl (part_sc T3 rfl rfl)) ?_ | refine q_read rfl rfl rfl rfl (rv_load rfl) (AH.get_put_self _ _ _) (part_sc T3 rfl rfl) ?_
              refine q_splitP rfl rfl rfl rfl (pv_int rfl rfl rfl) decide_eq_true_iff ?_ ?_
              · intro h6x16
                first | refine q_pure rfl rfl rfl rfl (pv_pickT rfl rfl) ?_ | refine q_pure rfl rfl rfl rfl (pv_pickF rfl rfl) ?_
                refine q_pure rfl rfl rfl rfl (pv_mov rfl) ?_
                refine q_skip rfl rfl rfl ?_
                refine q_skip rfl rfl rfl ?_
                refine q_skip rfl rfl rfl ?_
                refine q_skip rfl rfl rfl ?_
                refine q_skip rfl rfl rfl ?_
                refine q_skip rfl rfl rfl ?_
                refine q_skip rfl rfl rfl ?_
                refine q_skip rfl rfl rfl ?_
                refine q_skip rfl rfl rfl ?_
                refine q_skip rfl rfl rfl ?_
                refine q_skip rfl rfl rfl ?_
                refine q_skip rfl rfl rfl ?_
                first | refine q_pure rfl rfl rfl rfl (pv_pickT rfl rfl) ?_ | refine q_pure rfl rfl rfl rfl (pv_pickF rfl rfl) ?_
                first | refine q_nil0 ?_ | refine q_nil ?_
                refine AWp.cond (b := true) rfl (fun _ => ?_) (fun h => by cases h)
                refine AWp.seq ?_
                refine AWp.region E_ok.ok ?_
                refine s_pure rfl rfl (pv_asg rfl) ?_
                refine s_nil ?_
                refine AWp.ret ?_
                refine ⟨_, rfl, 1, _, rfl, ?_⟩
                show AV.bool false = _
                rw [tb_false]
                intro H
                first | (have := H.1; have := H.2.1; omega) | (have := H.2.2 k p hp; obtain ⟨⟨_, _, _, _⟩, h5⟩ := this; first | omega | exact absurd (h5 q (by omega) hq) (fun h => absurd h6x29 ((ptCmp_lt q p).2 h)))
              · intro h6x16
                first | refine q_pure rfl rfl rfl rfl (pv_pickT rfl rfl) ?_ | refine q_pure rfl rfl rfl rfl (pv_pickF rfl rfl) ?_
                refine q_pure rfl rfl rfl rfl (pv_mov rfl) ?_
                refine q_pure rfl rfl rfl rfl (pv_mov rfl) ?_
                refine q_splitP rfl rfl rfl rfl (pv_int rfl rfl rfl) decide_eq_true_iff ?_ ?_
                · intro h6x20
                  obtain ⟨q, hq⟩ := get_some (show k - 1 < l.length by omega)
                  have hkq : (k : Int) - 1 = (k - 1 : Nat) := by omega
                  refine q_pure rfl rfl rfl rfl (pv_mov rfl) ?_
                  refine q_pure rfl rfl rfl rfl (pv_mov rfl) ?_
                  refine q_pure rfl rfl rfl rfl (pv_mov rfl) ?_
                  refine q_pure rfl rfl rfl rfl (pv_sub rfl rfl (by omega) (by omega)) ?_
                  first | refine q_pure rfl rfl rfl rfl (pv_idx T22 rfl T53 rfl rfl (by omega) (by omega) (drop_encI encPt_len hkq hq)) ?_ | refine q_pure rfl rfl rfl rfl (pv_idx_sl T22 rfl T53 rfl rfl (by omega) (by omega)) ?_
                  first | refine q_imm rfl rfl rfl rfl (rv_loadi rfl (part_agg T53 rfl rfl rfl)) ?_ | refine q_read rfl rfl rfl rfl (rv_load rfl) (AH.get_put_self _ _ _) (part_agg T53 rfl rfl rfl) ?_
                  first | refine q_imm rfl rfl rfl rfl (rv_loadi rfl (part_agg T53 rfl rfl rfl)) ?_ | refine q_read rfl rfl rfl rfl (rv_load rfl) (AH.get_put_self _ _ _) (part_agg T53 rfl rfl rfl) ?_
                  refine q_callp rfl rfl rfl rfl rfl (ptCmp_ok q p) ?_
                  rintro _ rfl
                  refine q_splitP rfl rfl rfl rfl (pv_int rfl rfl rfl) decide_eq_true_iff ?_ ?_
                  · intro h6x29
                    first | refine q_pure rfl rfl rfl rfl (pv_pickT rfl rfl) ?_ | refine q_pure rfl rfl rfl rfl (pv_pickF rfl rfl) ?_
                    first | refine q_pure rfl rfl rfl rfl (pv_pickT rfl rfl) ?_ | refine q_pure rfl rfl rfl rfl (pv_pickF rfl rfl) ?_
                    first | refine q_nil0 ?_ | refine q_nil ?_
                    refine AWp.cond (b := true) rfl (fun _ => ?_) (fun h => by cases h)
                    refine AWp.seq ?_
                    refine AWp.region E_ok.ok ?_
                    refine s_pure rfl rfl (pv_asg rfl) ?_
                    refine s_nil ?_
                    refine AWp.ret ?_
                    refine ⟨_, rfl, 1, _, rfl, ?_⟩
                    show AV.bool false = _
                    rw [tb_false]
                    intro H
                    first | (have := H.1; have := H.2.1; omega) | (have := H.2.2 k p hp; obtain ⟨⟨_, _, _, _⟩, h5⟩ := this; first | omega | exact absurd (h5 q (by omega) hq) (fun h => absurd h6x29 ((ptCmp_lt q p).2 h)))
                  · intro h6x29
                    first | refine q_pure rfl rfl rfl rfl (pv_pickT rfl rfl) ?_ | refine q_pure rfl rfl rfl rfl (pv_pickF rfl rfl) ?_
                    first | refine q_pure rfl rfl rfl rfl (pv_pickT rfl rfl) ?_ | refine q_pure rfl rfl rfl rfl (pv_pickF rfl rfl) ?_
                    first | refine q_nil0 ?_ | refine q_nil ?_
                    refine AWp.cond (b := false) rfl (fun h => by cases h) (fun _ => ?_)
                    refine AWp.skip ?_
                    refine AWp.region E_ok.ok ?_
                    refine s_pure rfl rfl (pv_add rfl rfl (by omega) (by omega)) ?_
                    refine s_pure rfl rfl (pv_mov rfl) ?_
                    refine s_nil ?_
                    refine ⟨⟨(k + 1, _), by omega, hinv.step hp ⟨by omega, by omega, by omega, by omega⟩ ?_⟩, by dsimp only; omega, Weak.frL rfl ⟨rfl, rfl, rfl, rfl, trivial⟩⟩
                    intro q' h0 hq'
                    first | omega | (rw [hq] at hq'; cases hq'; exact (ptCmp_lt q p).1 h6x29)
                · intro h6x20
                  refine q_pure rfl rfl rfl rfl (pv_mov rfl) ?_
                  refine q_skip rfl rfl rfl ?_
                  refine q_skip rfl rfl rfl ?_
                  refine q_skip rfl rfl rfl ?_
                  refine q_skip rfl rfl rfl ?_
                  refine q_skip rfl rfl rfl ?_
                  refine q_skip rfl rfl rfl ?_
                  refine q_skip rfl rfl rfl ?_
                  refine q_skip rfl rfl rfl ?_
                  first | refine q_pure rfl rfl rfl rfl (pv_pickT rfl rfl) ?_ | refine q_pure rfl rfl rfl rfl (pv_pickF rfl rfl) ?_
                  first | refine q_pure rfl rfl rfl rfl (pv_pickT rfl rfl) ?_ | refine q_pure rfl rfl rfl rfl (pv_pickF rfl rfl) ?_
                  first | refine q_nil0 ?_ | refine q_nil ?_
                  refine AWp.cond (b := false) rfl (fun h => by cases h) (fun _ => ?_)
                  refine AWp.skip ?_
                  refine AWp.region E_ok.ok ?_
                  refine s_pure rfl rfl (pv_add rfl rfl (by omega) (by omega)) ?_
                  refine s_pure rfl rfl (pv_mov rfl) ?_
                  refine s_nil ?_
                  refine ⟨⟨(k + 1, _), by omega, hinv.step hp ⟨by omega, by omega, by omega, by omega⟩ ?_⟩, by dsimp only; omega, Weak.frL rfl ⟨rfl, rfl, rfl, rfl, trivial⟩⟩
                  intro q' h0 hq'
                  first | omega | (rw [hq] at hq'; cases hq'; exact (ptCmp_lt q p).1 h6x29)
      · intro h4x0
        refine s_nil ?_
        refine AWp.seq ?_
        refine AWp.cond (b := false) rfl (fun h => by cases h) (fun _ => ?_)
        refine AWp.exit ?_
        refine AWp.seq ?_
        refine AWp.region E_ok.ok ?_
        refine s_pure rfl rfl (pv_asg rfl) ?_
        refine s_nil ?_
        refine AWp.ret ?_
        refine ⟨_, rfl, 1, _, rfl, ?_⟩
        show AV.bool true = _
        rw [tb_true]
        exact ⟨by omega, by omega, fun j p h => hinv j p (by have := (List.getElem?_eq_some_iff.1 h).1; omega) h⟩
end Go.Am.Seat
