/- The long division of the reference, with no program in sight: the state of its outer loop, and that at the end the digits found are the quotient's and the rest is the remainder. Conditions: the divisor is positive. -/
import Derived.Test.YtmgcmknobnonhaaDig
namespace Go.Proofs.Ytmgcmknobnonhaa.Dig
open Go.RowKit Go.Proofs.YtmgcmknobnonhaaW.PrintWords
/-- j digits are still to come: Q is the quotient of those behind us, R the rest. -/
structure OInv (la ql : List Int) (m : Int) (j : Nat) (Q R : Int) : Prop where
  dig : Dig ql
  len : ql.length = la.length
  hj : j ≤ la.length
  zero : ∀ t, t < j → ql.getD t 0 = 0
  q : val ql = Q * pw j
  v : val la = ps la j + (Q * m + R) * pw j
  R0 : 0 ≤ R
  R1 : R < m
  Q0 : 0 ≤ Q
theorem OInv.start (la : List Int) {m : Int} (hm : 0 < m) : OInv la (List.replicate la.length 0) m la.length 0 0 :=
  ⟨Dig.replicate _, by simp, Nat.le_refl _, fun t _ => by rw [List.getD_eq_getElem?_getD, List.getElem?_replicate]; split <;> rfl, by rw [val_replicate, Int.zero_mul], by rw [ps_val _ _ (Nat.le_refl _)]; simp, Int.le_refl _, hm, Int.le_refl _⟩
theorem OInv.step {la ql : List Int} {m : Int} {i : Nat} {Q R lo : Int} (h : OInv la ql m (i + 1) Q R) (l0 : 0 ≤ lo) (l1 : lo < 1000000) (h1 : m * lo ≤ la.getD i 0 + 1000000 * R) (h2 : la.getD i 0 + 1000000 * R < m * lo + m) :
    OInv la (ql.set i lo) m i (Q * 1000000 + lo) (la.getD i 0 + 1000000 * R - m * lo) := by
  have hz := h.zero i (by omega)
  have hj := h.hj
  have hl := h.len
  refine ⟨h.dig.set i l0 l1, by simp [hl], by omega, fun t ht => ?_, ?_, ?_, by omega, by omega, by have := h.Q0; omega⟩
  · rw [List.getD_eq_getElem?_getD, List.getElem?_set_ne (by omega), ← List.getD_eq_getElem?_getD]
    exact h.zero t (by omega)
  · rw [val_set _ _ _ (by omega), hz, h.q, Int.sub_zero, pw_succ, ← Int.mul_assoc, ← Int.add_mul]
  · rw [h.v, pw_succ]
    simp only [ps]
    have e : (Q * 1000000 + lo) * m + (la.getD i 0 + 1000000 * R - m * lo) = (Q * m + R) * 1000000 + la.getD i 0 := by
      rw [Int.add_mul, Int.add_mul, Int.mul_comm m lo, Int.mul_right_comm Q]
      omega
    rw [e, Int.add_mul ((Q * m + R) * 1000000), Int.mul_assoc]
    omega
theorem OInv.done {la ql : List Int} {m Q R : Int} (h : OInv la ql m 0 Q R) : val ql = val la / m ∧ R = val la % m := by
  have h1 := h.q
  have h2 := h.v
  simp only [ps, pw, Int.mul_one, Int.zero_add] at h1 h2
  have hm : 0 < m := by have := h.R0; have := h.R1; omega
  have hu := (Int.ediv_emod_unique (a := val la) (b := m) (r := R) (q := Q) hm).2 ⟨by rw [h2, Int.mul_comm m Q]; omega, h.R0, h.R1⟩
  exact ⟨by rw [h1, hu.1], hu.2.symm⟩
end Go.Proofs.Ytmgcmknobnonhaa.Dig
