/- Digit lists in base 10^6, with no program in sight: their value, the canonical digits of a number, and when a list is canonical. -/
import Derived.Test.YtmgcmknobnonhaaWWords
namespace Go.Proofs.Ytmgcmknobnonhaa.Dig
open Go.RowKit Go.Proofs.YtmgcmknobnonhaaW.PrintWords
def val : List Int → Int
  | [] => 0
  | d :: l => d + 1000000 * val l
def pw : Nat → Int
  | 0 => 1
  | k + 1 => 1000000 * pw k
def Dig (l : List Int) : Prop := ∀ d ∈ l, 0 ≤ d ∧ d < 1000000
/-- The value of the first n digits. -/
def ps (l : List Int) : Nat → Int
  | 0 => 0
  | n + 1 => ps l n + l.getD n 0 * pw n
def dg (n : Nat) : List Int := if n = 0 then [] else ((n % 1000000 : Nat) : Int) :: dg (n / 1000000)
termination_by n
decreasing_by omega
theorem dg_zero : dg 0 = [] := by rw [dg]; rfl
theorem dg_pos {n : Nat} (h : n ≠ 0) : dg n = ((n % 1000000 : Nat) : Int) :: dg (n / 1000000) := by rw [dg, if_neg h]
theorem pw_pos (k : Nat) : 0 < pw k := by
  induction k with
  | zero => decide
  | succ k ih => simp only [pw]; omega
theorem pw_succ (k : Nat) : pw (k + 1) = 1000000 * pw k := rfl
theorem Dig.cons {d : Int} {l : List Int} (h : Dig (d :: l)) : (0 ≤ d ∧ d < 1000000) ∧ Dig l := ⟨h d (List.mem_cons_self ..), fun x hx => h x (List.mem_cons_of_mem _ hx)⟩
theorem Dig.nil : Dig [] := fun _ h => by cases h
theorem Dig.mk {d : Int} {l : List Int} (h0 : 0 ≤ d) (h1 : d < 1000000) (h : Dig l) : Dig (d :: l) := fun x hx => by
  rcases List.mem_cons.1 hx with rfl | hx
  · exact ⟨h0, h1⟩
  · exact h x hx
theorem Dig.append {l m : List Int} (h : Dig l) (h' : Dig m) : Dig (l ++ m) := fun x hx => by
  rcases List.mem_append.1 hx with hx | hx
  · exact h x hx
  · exact h' x hx
theorem Dig.left {l m : List Int} (h : Dig (l ++ m)) : Dig l := fun x hx => h x (List.mem_append_left _ hx)
theorem Dig.snoc {l : List Int} {d : Int} (h : Dig l) (h0 : 0 ≤ d) (h1 : d < 1000000) : Dig (l ++ [d]) := h.append (Dig.mk h0 h1 Dig.nil)
theorem Dig.last {l : List Int} {d : Int} (h : Dig (l ++ [d])) : 0 ≤ d ∧ d < 1000000 := h d (by simp)
theorem Dig.at {l : List Int} (h : Dig l) (i : Nat) : 0 ≤ l.getD i 0 ∧ l.getD i 0 < 1000000 := by
  rw [List.getD_eq_getElem?_getD]
  rcases Nat.lt_or_ge i l.length with hi | hi
  · rw [List.getElem?_eq_getElem hi]
    exact h _ (List.getElem_mem hi)
  · rw [List.getElem?_eq_none hi]
    decide
theorem Dig.set {l : List Int} (h : Dig l) (i : Nat) {v : Int} (h0 : 0 ≤ v) (h1 : v < 1000000) : Dig (l.set i v) := fun x hx => by
  rcases List.mem_or_eq_of_mem_set hx with hx | rfl
  · exact h x hx
  · exact ⟨h0, h1⟩
theorem Dig.replicate (n : Nat) : Dig (List.replicate n 0) := fun x hx => by
  rw [List.eq_of_mem_replicate hx]
  decide
theorem val_nonneg {l : List Int} (h : Dig l) : 0 ≤ val l := by
  induction l with
  | nil => decide
  | cons d l ih => obtain ⟨⟨h0, _⟩, h2⟩ := h.cons; have := ih h2; simp only [val]; omega
theorem val_lt {l : List Int} (h : Dig l) : val l < pw l.length := by
  induction l with
  | nil => decide
  | cons d l ih => obtain ⟨⟨_, h1⟩, h2⟩ := h.cons; have := ih h2; simp only [val, List.length_cons, pw]; omega
theorem val_append (l m : List Int) : val (l ++ m) = val l + pw l.length * val m := by
  induction l with
  | nil => simp [val, pw]
  | cons d l ih =>
    simp only [List.cons_append, val, ih, List.length_cons, pw]
    rw [Int.mul_add, Int.mul_assoc]
    omega
theorem val_snoc (l : List Int) (d : Int) : val (l ++ [d]) = val l + pw l.length * d := by rw [val_append]; simp [val]
theorem val_replicate (n : Nat) : val (List.replicate n 0) = 0 := by
  induction n with
  | zero => rfl
  | succ n ih => rw [List.replicate_succ]; simp only [val, ih]; omega
theorem ps_cons (d : Int) (l : List Int) (n : Nat) : ps (d :: l) (n + 1) = d + 1000000 * ps l n := by
  induction n with
  | zero => simp [ps, pw]
  | succ n ih =>
    rw [show ps (d :: l) (n + 1 + 1) = ps (d :: l) (n + 1) + (d :: l).getD (n + 1) 0 * pw (n + 1) from rfl, ih]
    rw [show ps l (n + 1) = ps l n + l.getD n 0 * pw n from rfl, List.getD_cons_succ, pw_succ, Int.mul_left_comm, Int.mul_add]
    omega
theorem ps_nil (n : Nat) : ps [] n = 0 := by
  induction n with
  | zero => rfl
  | succ n ih => simp [ps, ih]
theorem ps_val (l : List Int) (n : Nat) (h : l.length ≤ n) : ps l n = val l := by
  induction l generalizing n with
  | nil => rw [ps_nil]; rfl
  | cons d l ih =>
    obtain ⟨n, rfl⟩ : ∃ m, n = m + 1 := ⟨n - 1, by simp at h; omega⟩
    rw [ps_cons, ih n (by simpa using h)]
    rfl
theorem ps_bound {l : List Int} (h : Dig l) (n : Nat) : 0 ≤ ps l n ∧ ps l n < pw n := by
  induction n with
  | zero => exact ⟨Int.le_refl _, Int.one_pos⟩
  | succ n ih =>
    obtain ⟨a0, a1⟩ := h.at n
    have hp := pw_pos n
    simp only [ps, pw]
    have h1 : 0 ≤ l.getD n 0 * pw n := Int.mul_nonneg a0 (by omega)
    have h2 : l.getD n 0 * pw n ≤ 999999 * pw n := Int.mul_le_mul_of_nonneg_right (by omega) (by omega)
    omega
theorem ps_snoc (l : List Int) (d : Int) : ps (l ++ [d]) (l.length + 1) = val l + d * pw l.length := by
  rw [ps_val _ _ (by simp), val_snoc, Int.mul_comm]
theorem ps_set (l : List Int) (i : Nat) (v : Int) (hi : i < l.length) (n : Nat) : ps (l.set i v) n = ps l n + if i < n then (v - l.getD i 0) * pw i else 0 := by
  induction n with
  | zero => simp [ps]
  | succ n ih =>
    simp only [ps, ih]
    by_cases h : i = n
    · subst h
      rw [if_neg (by omega), if_pos (by omega)]
      have : (l.set i v).getD i 0 = v := by rw [List.getD_eq_getElem?_getD, List.getElem?_set_self hi]; rfl
      rw [this, Int.sub_mul]
      omega
    · have : (l.set i v).getD n 0 = l.getD n 0 := by rw [List.getD_eq_getElem?_getD, List.getElem?_set_ne h, ← List.getD_eq_getElem?_getD]
      rw [this]
      by_cases h2 : i < n
      · rw [if_pos h2, if_pos (by omega)]; omega
      · rw [if_neg h2, if_neg (by omega)]; omega
theorem val_set (l : List Int) (i : Nat) (v : Int) (hi : i < l.length) : val (l.set i v) = val l + (v - l.getD i 0) * pw i := by
  rw [← ps_val (l.set i v) l.length (by simp), ps_set l i v hi, if_pos hi, ps_val l _ (Nat.le_refl _)]
theorem val_dg (n : Nat) : val (dg n) = n := by
  induction n using Nat.strongRecOn with
  | _ n ih =>
    by_cases h : n = 0
    · subst h; rw [dg_zero]; rfl
    · rw [dg_pos h]
      simp only [val]
      rw [ih (n / 1000000) (by omega)]
      omega
theorem dig_dg (n : Nat) : Dig (dg n) := by
  induction n using Nat.strongRecOn with
  | _ n ih =>
    by_cases h : n = 0
    · subst h; rw [dg_zero]; exact Dig.nil
    · rw [dg_pos h]
      exact Dig.mk (by omega) (by omega) (ih (n / 1000000) (by omega))
/-- A list whose last digit is not 0 is the canonical one. -/
theorem canon {l : List Int} (h : Dig l) (hl : ∀ m d, l = m ++ [d] → d ≠ 0) : l = dg (val l).toNat := by
  induction l with
  | nil => rw [show (val []).toNat = 0 from rfl, dg_zero]
  | cons d l ih =>
    obtain ⟨⟨h0, h1⟩, h2⟩ := h.cons
    have e := ih h2 (fun m x hm => hl (d :: m) x (by rw [hm]; rfl))
    have hv := val_nonneg h2
    have hne : (val (d :: l)).toNat ≠ 0 := by
      simp only [val]
      intro h3
      have hl0 : l = [] := by
        rw [e, show (val l).toNat = 0 from by omega, dg_zero]
      exact hl [] d (by rw [hl0]; rfl) (by rw [hl0] at h3; simp only [val] at h3; omega)
    rw [dg_pos hne]
    simp only [val] at hne ⊢
    rw [show (((d + 1000000 * val l).toNat % 1000000 : Nat) : Int) = d from by omega, show (d + 1000000 * val l).toNat / 1000000 = (val l).toNat from by omega, ← e]
/-- The canonical digits' length: pw bounds. -/
theorem dg_len_lt {n k : Nat} (h : (n : Int) < pw k) : (dg n).length ≤ k := by
  induction k generalizing n with
  | zero => simp only [pw] at h; rw [show n = 0 from by omega, dg_zero]; exact Nat.le_refl _
  | succ k ih =>
    by_cases h0 : n = 0
    · subst h0; rw [dg_zero]; exact Nat.zero_le _
    · rw [dg_pos h0, List.length_cons]
      simp only [pw] at h
      have := ih (n := n / 1000000) (by omega)
      omega
theorem dg_len_ge {n : Nat} (h : n ≠ 0) : pw ((dg n).length - 1) ≤ n := by
  induction n using Nat.strongRecOn with
  | _ n ih =>
    rw [dg_pos h, List.length_cons]
    by_cases h2 : n / 1000000 = 0
    · rw [h2, dg_zero]; simp [pw]; omega
    · have h3 := ih (n / 1000000) (by omega) h2
      have h4 : (dg (n / 1000000)).length ≠ 0 := by rw [dg_pos h2]; simp
      rw [show (dg (n / 1000000)).length + 1 - 1 = ((dg (n / 1000000)).length - 1) + 1 from by omega, pw_succ]
      omega
theorem pw_mono {i j : Nat} (h : i ≤ j) : pw i ≤ pw j := by
  induction j with
  | zero => rw [show i = 0 from by omega]; exact Int.le_refl _
  | succ j ih =>
    rcases Nat.lt_or_ge i (j + 1) with h2 | h2
    · have := ih (by omega); have := pw_pos j; rw [pw_succ]; omega
    · rw [show i = j + 1 from by omega]; exact Int.le_refl _
theorem pw_add (i j : Nat) : pw (i + j) = pw i * pw j := by
  induction i with
  | zero => simp [pw]
  | succ i ih => rw [show i + 1 + j = (i + j) + 1 from by omega, pw_succ, ih, pw_succ, Int.mul_assoc]
/-- The shorter canonical list is the smaller number. -/
theorem dg_shorter {n m : Nat} (h : (dg n).length < (dg m).length) : n < m := by
  have hm : m ≠ 0 := by intro e; subst e; rw [dg_zero] at h; simp at h
  have h1 := dg_len_ge hm
  have h2 := val_lt (dig_dg n)
  rw [val_dg] at h2
  have h3 := pw_mono (i := (dg n).length) (j := (dg m).length - 1) (by omega)
  omega
end Go.Proofs.Ytmgcmknobnonhaa.Dig
