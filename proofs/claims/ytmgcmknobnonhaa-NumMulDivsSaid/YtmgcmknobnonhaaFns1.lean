/- What the reference's inner functions compute, as the walks tell it, at digit lists: U, I, trim and Minus. Conditions: the digits are from 0 to 999999, the lists short. -/
import Derived.Test.YtmgcmknobnonhaaDig
import Derived.Test.YtmgcmknobnonhaaZI
import Derived.Test.YtmgcmknobnonhaaZZMinus
namespace Go.Proofs.Ytmgcmknobnonhaa.Dig
open Go.RowKit Go.Proofs.YtmgcmknobnonhaaW.PrintWords Go.Proofs.Ytmgcmknobnonhaa.PNumMulDivs
theorem wr64 (n : Int) (h0 : 0 ≤ n) (h1 : n < 18446744073709551616) : IntKind.u64.wrap n = n := by rw [IntKind.wrap_u64]; omega
theorem w64 (n : Int) (h0 : -9223372036854775808 ≤ n) (h1 : n < 9223372036854775808) : wrap64 n = n := by unfold wrap64; omega
/-- The form of a Z. -/
def zr (z : Int) : Bool × List Int := (decide (z < 0), dg z.natAbs)
theorem u_loop (n : Nat) : ∀ acc : List Int, n < 18446744073709551616 → acc.length + (dg n).length < 17592186044416 → Ev (fun k => spyref1_U.l0 k (n : Int) acc) (false, acc ++ dg n) := by
  induction n using Nat.strongRecOn with
  | _ n ih =>
    intro acc hn hl
    by_cases h : n = 0
    · subst h
      rw [dg_zero, List.append_nil]
      refine Ev.step (f := fun _ => some (false, acc)) (fun k => ?_) (Ev.now _)
      simp only [spyref1_U.l0]
      rw [if_neg (by decide)]
    · rw [dg_pos h] at hl ⊢
      rw [List.length_cons] at hl
      have h1 := ih (n / 1000000) (by omega) (acc ++ [((n % 1000000 : Nat) : Int)]) (by omega) (by simp; omega)
      rw [List.append_assoc] at h1
      refine Ev.step (fun k => ?_) h1
      simp only [spyref1_U.l0]
      rw [if_pos (by omega), if_pos (by omega)]
      rw [Int.tdiv_eq_ediv_of_nonneg (by omega), Int.tmod_eq_emod_of_nonneg (by omega), wr64 _ (by omega) (by omega), w64 _ (by omega) (by omega)]
      rfl
theorem dg_short {n : Nat} (h : n < 18446744073709551616) : (dg n).length ≤ 4 := dg_len_lt (by simp only [pw]; omega)
theorem u_said (n : Nat) (hn : n < 18446744073709551616) : Ev (fun k => spyref1_U.f k (n : Int)) (false, dg n) := by
  have := dg_short hn
  exact u_loop n [] hn (by simp; omega)
theorem i_said (z : Int) (h0 : -9223372036854775808 ≤ z) (h1 : z < 9223372036854775808) : Ev (fun k => spyref1_I.f k z) (zr z) := by
  by_cases h : z < 0
  · have e : IntKind.u64.wrap (-(IntKind.u64.wrap z)) = (z.natAbs : Int) := by simp only [IntKind.wrap_u64]; omega
    have e2 : zr z = (true, dg z.natAbs) := by unfold zr; rw [decide_eq_true h]
    rw [e2]
    refine Ev.congr (fun k => ?_) (Ev.bind (f := fun _ bt => some (true, bt.2)) (u_said z.natAbs (by omega)) (Ev.now _))
    unfold spyref1_I.f
    rw [if_pos h, e]
  · have e : IntKind.u64.wrap z = (z.natAbs : Int) := by simp only [IntKind.wrap_u64]; omega
    have e2 : zr z = (false, dg z.natAbs) := by unfold zr; rw [decide_eq_false h]
    rw [e2]
    refine Ev.congr (fun k => ?_) (Ev.bind (f := fun _ bt => some (bt.1, bt.2)) (u_said z.natAbs (by omega)) (Ev.now _))
    unfold spyref1_I.f
    rw [if_neg h, e]
theorem rd_nat (l : List Int) (i : Nat) : rd l (i : Int) = l.getD i 0 := by unfold rd; rw [Int.toNat_natCast]
/-- The value with its sign. -/
def sv (neg : Bool) (l : List Int) : Int := if neg = true then -(val l) else val l
theorem zr_sv (neg : Bool) {l : List Int} (hd : Dig l) (n : Bool) (hn : n = (neg && decide (0 < val l))) : (n, dg (val l).toNat) = zr (sv neg l) := by
  have h := val_nonneg hd
  subst hn
  unfold zr sv
  cases neg with
  | true =>
    simp only [if_true, Bool.true_and]
    rw [show (-(val l)).natAbs = (val l).toNat from by omega]
    congr 1
    exact decide_eq_decide.2 (by omega)
  | false =>
    rw [if_neg (by decide), show (val l).natAbs = (val l).toNat from by omega]
    congr 1
    simp only [Bool.false_and]
    exact (decide_eq_false (by omega)).symm
theorem trim_loop (neg : Bool) (n : Nat) : ∀ l : List Int, l.length = n → n < 1000000 → Dig l → Ev (fun k => spyref1_trim.l0 k neg l) (zr (sv neg l)) := by
  induction n with
  | zero =>
    intro l hl _ hd
    obtain rfl : l = [] := List.eq_nil_of_length_eq_zero hl
    rw [← zr_sv neg hd false (by simp [val]), show (val []).toNat = 0 from rfl, dg_zero]
    refine Ev.step (f := fun _ => some (false, [])) (fun k => ?_) (Ev.now _)
    simp only [spyref1_trim.l0]
    rw [if_neg (by simp)]
    cases neg <;> rfl
  | succ n ih =>
    intro l hl hn hd
    obtain ⟨m, d, rfl⟩ : ∃ m d, l = m ++ [d] := by
      rcases List.eq_nil_or_concat l with h | ⟨m, d, h⟩
      · subst h; simp at hl
      · exact ⟨m, d, by rw [h]; simp⟩
    have hm : m.length = n := by simpa using hl
    have hlen : ((m ++ [d]).length : Int) = n + 1 := by simp [hm]
    have hr : rd (m ++ [d]) (n : Int) = d := by rw [rd_nat, ← hm]; simp
    have w1 : wrap64 ((n : Int) + 1 - 1) = n := by rw [w64 _ (by omega) (by omega)]; omega
    by_cases h0 : d = 0
    · subst h0
      have hv : sv neg (m ++ [0]) = sv neg m := by unfold sv; rw [val_snoc, Int.mul_zero, Int.add_zero]
      rw [hv]
      refine Ev.step (fun k => ?_) (ih m hm (by omega) hd.left)
      simp only [spyref1_trim.l0]
      rw [hlen, w1, hr, if_pos (by omega), if_pos (by omega), if_pos (by omega), if_pos rfl, if_pos (by omega), Int.toNat_natCast, ← hm, List.take_left]
    · have hc := canon hd (fun m' d' e => by
        have := List.append_inj_right' e rfl
        injection this with h1
        exact h1 ▸ h0)
      have hp := pw_pos m.length
      have hv : 0 < val (m ++ [d]) := by
        rw [val_snoc]
        have h1 := val_nonneg hd.left
        have h2 := hd.last
        have : pw m.length * 1 ≤ pw m.length * d := Int.mul_le_mul_of_nonneg_left (by omega) (by omega)
        omega
      rw [← zr_sv neg hd neg (by rw [decide_eq_true hv]; simp), ← hc]
      refine Ev.step (f := fun _ => some (neg, m ++ [d])) (fun k => ?_) (Ev.now _)
      simp only [spyref1_trim.l0]
      rw [hlen, w1, hr, if_pos (by omega), if_pos (by omega), if_pos (by omega), if_neg h0]
      cases neg with
      | true => rw [if_pos rfl, decide_eq_true (by omega)]
      | false => rw [if_neg (by decide)]
theorem trim_said (neg : Bool) (l : List Int) (h : l.length < 1000000) (hd : Dig l) : Ev (fun k => spyref1_trim.f k neg l) (zr (sv neg l)) := trim_loop neg _ l rfl h hd
theorem zr_val (z : Int) : sv (zr z).1 (zr z).2 = z := by
  unfold zr sv
  simp only [val_dg]
  by_cases h : z < 0
  · rw [decide_eq_true h, if_pos rfl]; omega
  · rw [decide_eq_false h, if_neg (by decide)]; omega
theorem minus_said (z : Int) (h : (zr z).2.length < 1000000) : Ev (fun k => spyref1_Z_Minus.f k (zr z).1 (zr z).2) (zr (-z)) := by
  have h1 := trim_said (!(zr z).1) (zr z).2 h (dig_dg _)
  have e : sv (!(zr z).1) (zr z).2 = -z := by
    conv => rhs; rw [← zr_val z]
    unfold sv
    cases (zr z).1 <;> simp
  rw [e] at h1
  exact Ev.bind (f := fun _ bt => some (bt.1, bt.2)) h1 (Ev.now _)
end Go.Proofs.Ytmgcmknobnonhaa.Dig
