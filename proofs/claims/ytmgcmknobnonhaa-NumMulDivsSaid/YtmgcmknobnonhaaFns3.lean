/- What the reference's product and Small compute, as the walks tell it, at digit lists. Conditions: the digits are from 0 to 999999, the lists short. -/
import Derived.Test.YtmgcmknobnonhaaFns2
import Derived.Test.YtmgcmknobnonhaaZZTimes
import Derived.Test.YtmgcmknobnonhaaZZSmall
import Derived.Lib.Hide
namespace Go.Proofs.Ytmgcmknobnonhaa.Dig
open Go.RowKit Go.Proofs.YtmgcmknobnonhaaW.PrintWords Go.Proofs.Ytmgcmknobnonhaa.PNumMulDivs
/-- The state of the product's loops: the digits d, i rounds of the outer loop gone. -/
structure TInv (la lb d : List Int) (i : Nat) : Prop where
  len : d.length = la.length + lb.length + 1
  dig : Dig d
  zero : ∀ t, i + lb.length ≤ t → d.getD t 0 = 0
theorem set_get_ne (l : List Int) (i t : Nat) (v : Int) (h : i ≠ t) : (l.set i v).getD t 0 = l.getD t 0 := by
  rw [List.getD_eq_getElem?_getD, List.getElem?_set_ne h, ← List.getD_eq_getElem?_getD]
theorem digit_mul {x y : Int} (hx : 0 ≤ x ∧ x < 1000000) (hy : 0 ≤ y ∧ y < 1000000) : 0 ≤ x * y ∧ x * y ≤ 999998000001 := by
  have h1 := Int.mul_le_mul (a := x) (b := y) (c := 999999) (d := 999999) (by omega) (by omega) hy.1 (by decide)
  exact ⟨Int.mul_nonneg hx.1 hy.1, by omega⟩
/-- The step's equation. -/
theorem times_key (la lb d : List Int) (c : Int) (i j : Nat) (hij : i + j < d.length) (hv : val d + c * pw (i + j) = ps la i * val lb + la.getD i 0 * ps lb j * pw i) :
    val (d.set (i + j) ((c + (d.getD (i + j) 0 + la.getD i 0 * lb.getD j 0)) % 1000000)) + (c + (d.getD (i + j) 0 + la.getD i 0 * lb.getD j 0)) / 1000000 * pw (i + (j + 1)) = ps la i * val lb + la.getD i 0 * ps lb (j + 1) * pw i := by
  rw [val_set _ _ _ hij, show i + (j + 1) = (i + j) + 1 from by omega, pw_succ, show ps lb (j + 1) = ps lb j + lb.getD j 0 * pw j from rfl]
  have hp : pw (i + j) = pw i * pw j := pw_add i j
  have g2 : la.getD i 0 * (ps lb j + lb.getD j 0 * pw j) * pw i = la.getD i 0 * ps lb j * pw i + la.getD i 0 * lb.getD j 0 * pw (i + j) := by
    rw [hp, Int.mul_add, Int.add_mul, Int.mul_comm (pw i), ← Int.mul_assoc, ← Int.mul_assoc]
  rw [g2]
  generalize la.getD i 0 * ps lb j * pw i = t1 at *
  generalize ps la i * val lb = t2 at *
  generalize la.getD i 0 * lb.getD j 0 = q at *
  generalize d.getD (i + j) 0 = x at *
  generalize pw (i + j) = P at *
  generalize val d = v at *
  clear g2 hp hij
  have g1 : (c + (x + q)) / 1000000 * (1000000 * P) = ((c + (x + q)) - (c + (x + q)) % 1000000) * P := by
    rw [← Int.mul_assoc]
    congr 1
    omega
  rw [g1, Int.add_assoc, ← Int.add_mul, show (c + (x + q)) % 1000000 - x + (c + (x + q) - (c + (x + q)) % 1000000) = c + q from by omega, Int.add_mul]
  omega
theorem times_inner (la lb : List Int) (n0 n1 : Bool) (hla : Dig la) (hlb : Dig lb) (hs : la.length + lb.length < 100000) (i : Nat) (hi : i < la.length) (r : Bool × List Int)
    (next : ∀ d : List Int, TInv la lb d (i + 1) → val d = ps la (i + 1) * val lb → Ev (fun k => spyref1_Z_Times.l0 k d la (la.length : Int) ((i : Int) + 1) n0 la n1 lb) r) (n : Nat) :
    ∀ (d : List Int) (c : Int) (j : Nat), lb.length - j = n → j ≤ lb.length → TInv la lb d i → 0 ≤ c → c < 1000000 → val d + c * pw (i + j) = ps la i * val lb + la.getD i 0 * ps lb j * pw i →
      Ev (fun k => spyref1_Z_Times.l1 k d (i : Int) (la.getD i 0) c la (la.length : Int) (i : Int) lb (lb.length : Int) (j : Int) n0 la n1 lb) r := by
  have ax := hla.at i
  induction n with
  | zero =>
    intro d c j hn hj hI c0 c1 hv0
    have HV := Lib.hid hv0
    clear hv0
    obtain rfl : j = lb.length := by omega
    have e1 : RowKit.Hid (wrap64 ((i : Int) + (lb.length : Int)) = ((i + lb.length : Nat) : Int)) := (w64 _ (by omega) (by omega)).trans (by omega)
    have hlen := hI.len
    have hz := hI.zero (i + lb.length) (Nat.le_refl _)
    have e2 : RowKit.Hid (wrap64 (0 + c) = c) := (w64 _ (by omega) (by omega)).trans (by omega)
    have e3 : RowKit.Hid (wrap64 ((i : Int) + 1) = (i : Int) + 1) := w64 _ (by omega) (by omega)
    refine Ev.step (fun k => ?_) (next (d.set (i + lb.length) c) ⟨by simp [hlen], hI.dig.set _ c0 c1, fun t ht => by rw [set_get_ne _ _ _ _ (by omega)]; exact hI.zero t (by omega)⟩ ?_)
    · simp only [spyref1_Z_Times.l1]
      rw [if_neg (by omega), e1.out, if_pos (by omega), if_pos (by omega), rd_nat, hz, e2.out, Int.toNat_natCast, e3.out]
    · rw [val_set _ _ _ (by omega), hz, Int.sub_zero, HV.out]
      simp only [ps]
      rw [ps_val lb _ (Nat.le_refl _), Int.add_mul, Int.mul_right_comm]
  | succ n ih =>
    intro d c j hn hj hI c0 c1 hv0
    have HV := Lib.hid hv0
    clear hv0
    have hlen := hI.len
    have ay := hlb.at j
    have ad := hI.dig.at (i + j)
    have e1 : RowKit.Hid (wrap64 ((i : Int) + (j : Int)) = ((i + j : Nat) : Int)) := (w64 _ (by omega) (by omega)).trans (by omega)
    have e3 : RowKit.Hid (wrap64 ((j : Int) + 1) = ((j + 1 : Nat) : Int)) := (w64 _ (by omega) (by omega)).trans (by omega)
    have pxy := digit_mul ax ay
    have K := times_key la lb d c i j (by omega) HV.out
    obtain ⟨q, hq⟩ : ∃ q, q = la.getD i 0 * lb.getD j 0 := ⟨_, rfl⟩
    obtain ⟨x, hx⟩ : ∃ x, x = d.getD (i + j) 0 := ⟨_, rfl⟩
    rw [← hq, ← hx] at K
    rw [← hq] at pxy
    rw [← hx] at ad
    have HK := Lib.hid K
    have HQ := Lib.hid hq
    have HX := Lib.hid hx
    clear K hq hx HV
    have f1 : RowKit.Hid (wrap64 q = q) := w64 _ (by omega) (by omega)
    have f2 : RowKit.Hid (wrap64 (x + q) = x + q) := w64 _ (by omega) (by omega)
    have f3 : RowKit.Hid (wrap64 (c + (x + q)) = c + (x + q)) := w64 _ (by omega) (by omega)
    have f4 : RowKit.Hid (wrap64 ((c + (x + q)) / 1000000) = (c + (x + q)) / 1000000) := w64 _ (by omega) (by omega)
    have f5 : RowKit.Hid (Int.tmod (c + (x + q)) 1000000 = (c + (x + q)) % 1000000) := Int.tmod_eq_emod_of_nonneg (by omega)
    have f6 : RowKit.Hid (Int.tdiv (c + (x + q)) 1000000 = (c + (x + q)) / 1000000) := Int.tdiv_eq_ediv_of_nonneg (by omega)
    refine Ev.step (fun k => ?_) (ih (d.set (i + j) ((c + (x + q)) % 1000000)) ((c + (x + q)) / 1000000) (j + 1) (by omega) (by omega)
      ⟨by simp [hlen], hI.dig.set _ (by omega) (by omega), fun t ht => by rw [set_get_ne _ _ _ _ (by omega)]; exact hI.zero t ht⟩ (by omega) (by omega) HK.out)
    simp only [spyref1_Z_Times.l1]
    rw [if_pos (by omega), if_pos (by omega), if_pos (by omega), e1.out, if_pos (by omega), if_pos (by omega), rd_nat, rd_nat, ← HQ.out, ← HX.out, f1.out, f2.out, f3.out, f5.out, f6.out, f4.out, Int.toNat_natCast, e3.out]
theorem times_outer (la lb : List Int) (n0 n1 : Bool) (hla : Dig la) (hlb : Dig lb) (hs : la.length + lb.length < 100000) (r : Bool × List Int)
    (fin : ∀ d : List Int, d.length = la.length + lb.length + 1 → Dig d → val d = val la * val lb → Ev (fun k => spyref1_trim.f k (n0 != n1) d) r) (n : Nat) :
    ∀ (d : List Int) (i : Nat), la.length - i = n → i ≤ la.length → TInv la lb d i → val d = ps la i * val lb →
      Ev (fun k => spyref1_Z_Times.l0 k d la (la.length : Int) (i : Int) n0 la n1 lb) r := by
  induction n with
  | zero =>
    intro d i hn hi hI hv
    obtain rfl : i = la.length := by omega
    rw [ps_val la _ (Nat.le_refl _)] at hv
    refine Ev.step (fun k => ?_) (Ev.bind (f := fun _ bt => some (bt.1, bt.2)) (fin d hI.len hI.dig hv) (Ev.now _))
    simp only [spyref1_Z_Times.l0]
    rw [if_neg (by omega)]
  | succ n ih =>
    intro d i hn hi hI hv
    have h1 := times_inner la lb n0 n1 hla hlb hs i (by omega) r (fun d' hI' hv' => ih d' (i + 1) (by omega) (by omega) hI' hv') _ d 0 0 rfl (Nat.zero_le _) hI (by decide) (by decide) (by simp only [ps]; rw [hv]; simp)
    refine Ev.step (fun k => ?_) h1
    simp only [spyref1_Z_Times.l0]
    rw [if_pos (by omega), if_pos (by omega), if_pos (by omega), rd_nat]
    rfl
theorem times_said (x y : Int) (hs : (zr x).2.length + (zr y).2.length < 90000) : Ev (fun k => spyref1_Z_Times.f k (zr x).1 (zr x).2 (zr y).1 (zr y).2) (zr (x * y)) := by
  have hfin : ∀ d : List Int, d.length = (zr x).2.length + (zr y).2.length + 1 → Dig d → val d = val (zr x).2 * val (zr y).2 → Ev (fun k => spyref1_trim.f k ((zr x).1 != (zr y).1) d) (zr (x * y)) := by
    intro d hd hdd hv
    have h1 := trim_said ((zr x).1 != (zr y).1) d (by omega) hdd
    have e : sv ((zr x).1 != (zr y).1) d = x * y := by
      conv => rhs; rw [← zr_val x, ← zr_val y]
      unfold sv
      rw [hv]
      cases (zr x).1 <;> cases (zr y).1 <;> simp [Int.mul_neg, Int.neg_mul]
    rw [e] at h1
    exact h1
  have h0 := times_outer (zr x).2 (zr y).2 (zr x).1 (zr y).1 (dig_dg _) (dig_dg _) (by omega) _ hfin _ (List.replicate ((zr x).2.length + (zr y).2.length + 1) 0) 0 rfl (Nat.zero_le _)
    ⟨by simp, Dig.replicate _, fun t _ => by rw [List.getD_eq_getElem?_getD, List.getElem?_replicate]; split <;> rfl⟩ (by rw [val_replicate]; simp [ps])
  refine Ev.congr (fun k => ?_) h0
  unfold spyref1_Z_Times.f
  have e1 : wrap64 (wrap64 (((zr x).2.length : Int) + ((zr y).2.length : Int)) + 1) = (((zr x).2.length + (zr y).2.length + 1 : Nat) : Int) := by
    rw [w64 (((zr x).2.length : Int) + ((zr y).2.length : Int)) (by omega) (by omega), w64 _ (by omega) (by omega)]
    omega
  rw [e1, if_pos (by omega), if_pos (by rw [Int.toNat_natCast]; omega), Int.toNat_natCast]
  rfl
/-- Small, from place i downwards: the number so far is what stands above. -/
theorem small_loop (neg : Bool) (l : List Int) (hd : Dig l) (hn : l.length < 1000000) (h0 : -9223372036854775808 ≤ sv neg l) (h1 : sv neg l < 9223372036854775808) (i : Nat) :
    ∀ t : Int, i ≤ l.length → 0 ≤ t → val l = ps l i + t * pw i → Ev (fun k => spyref1_Z_Small.l0 k (if neg = true then -t else t) ((i : Int) - 1) neg l) (sv neg l, true) := by
  have hval := val_nonneg hd
  induction i with
  | zero =>
    intro t _ _ hv
    simp only [ps, pw] at hv
    have e : sv neg l = if neg = true then -t else t := by unfold sv; cases neg <;> simp <;> omega
    rw [e]
    refine Ev.step (f := fun _ => some (if neg = true then -t else t, true)) (fun k => ?_) (Ev.now _)
    simp only [spyref1_Z_Small.l0]
    rw [if_neg (by omega)]
  | succ i ih =>
    intro t hi ht hv
    have a := hd.at i
    have hp := pw_pos i
    have b := ps_bound hd i
    simp only [ps, pw] at hv
    have e1 : ((i + 1 : Nat) : Int) - 1 = (i : Int) := by omega
    have w1 : wrap64 ((i : Int) - 1) = (i : Int) - 1 := w64 _ (by omega) (by omega)
    have hv2 : val l = ps l i + (t * 1000000 + l.getD i 0) * pw i := by rw [Int.add_mul, Int.mul_assoc]; omega
    have hle : (t * 1000000 + l.getD i 0) * 1 ≤ (t * 1000000 + l.getD i 0) * pw i := Int.mul_le_mul_of_nonneg_left (by omega) (by omega)
    have h2 := ih (t * 1000000 + l.getD i 0) (by omega) (by omega) hv2
    rw [e1]
    unfold sv at h0 h1
    cases neg with
    | true =>
      rw [if_pos rfl] at h0 h1
      rw [if_pos rfl] at h2 ⊢
      refine Ev.step (fun k => ?_) h2
      simp only [spyref1_Z_Small.l0]
      rw [if_pos (by omega), if_pos trivial, if_pos (by omega), if_pos (by omega), rd_nat, w64 (-t * 1000000) (by omega) (by omega), w64 _ (by omega) (by omega), w1, show -(t * 1000000 + l.getD i 0) = -t * 1000000 - l.getD i 0 from by omega]
    | false =>
      rw [if_neg (by decide)] at h0 h1
      rw [if_neg (by decide)] at h2 ⊢
      refine Ev.step (fun k => ?_) h2
      simp only [spyref1_Z_Small.l0]
      rw [if_pos (by omega), if_neg (by decide), if_pos (by omega), if_pos (by omega), rd_nat, w64 (t * 1000000) (by omega) (by omega), w64 _ (by omega) (by omega), w1]
/-- Whether a number fits into 64 bits. -/
def fits (z : Int) : Bool := decide (-9223372036854775808 ≤ z) && decide (z < 9223372036854775808)
theorem small_said (z : Int) (hz : (zr z).2.length < 900000) : Ev (fun k => spyref1_Z_Small.f k (zr z).1 (zr z).2) (if fits z = true then (z, true) else (0, false)) := by
  have i1 := i_said (-9223372036854775808) (by decide) (by decide)
  have i2 := i_said 9223372036854775807 (by decide) (by decide)
  have s1 : (zr (-9223372036854775808)).2.length < 1000000 := by
    show (dg 9223372036854775808).length < 1000000
    have := dg_short (n := 9223372036854775808) (by decide)
    omega
  have s2 : (zr 9223372036854775807).2.length < 1000000 := by
    show (dg 9223372036854775807).length < 1000000
    have := dg_short (n := 9223372036854775807) (by decide)
    omega
  have c1 := cmp_said z (-9223372036854775808) (by omega) s1
  have c2 := cmp_said z 9223372036854775807 (by omega) s2
  by_cases h1 : z < -9223372036854775808
  · rw [cmp_lt h1] at c1
    have e : ¬ fits z = true := by unfold fits; rw [decide_eq_false (by omega)]; simp
    rw [if_neg e]
    refine Ev.bind i1 (Ev.bind c1 ?_)
    refine Ev.congr (fun k => if_pos (by decide)) ?_
    refine Ev.step (f := fun _ => some (0, false)) (fun k => ?_) (Ev.now _)
    simp only [spyref1_Z_Small.j0]
    rw [if_pos trivial]
  · by_cases h2 : 9223372036854775807 < z
    · rw [cmp_gt h2] at c2
      have e : ¬ fits z = true := by unfold fits; rw [decide_eq_false (p := z < 9223372036854775808) (by omega)]; simp
      rw [if_neg e]
      refine Ev.bind i1 (Ev.bind c1 ?_)
      refine Ev.congr (fun k => if_neg ?_) (Ev.bind i2 (Ev.bind c2 ?_))
      · rcases Int.lt_trichotomy z (-9223372036854775808) with h | h | h
        · exact absurd h h1
        · rw [cmp_eq h]; decide
        · rw [cmp_gt h]; decide
      · refine Ev.step (f := fun _ => some (0, false)) (fun k => ?_) (Ev.now _)
        simp only [spyref1_Z_Small.j0]
        rw [if_pos (by decide)]
    · have e : fits z = true := by unfold fits; rw [decide_eq_true (by omega), decide_eq_true (by omega)]; rfl
      rw [if_pos e]
      refine Ev.bind i1 (Ev.bind c1 ?_)
      refine Ev.congr (fun k => if_neg ?_) (Ev.bind i2 (Ev.bind c2 ?_))
      · rcases Int.lt_trichotomy z (-9223372036854775808) with h | h | h
        · exact absurd h h1
        · rw [cmp_eq h]; decide
        · rw [cmp_gt h]; decide
      · have hnot : decide (cmp z 9223372036854775807 > 0) = false := by
          rcases (by omega : z < 9223372036854775807 ∨ z = 9223372036854775807) with h | h
          · rw [cmp_lt h]; decide
          · rw [cmp_eq h]; decide
        have hl := small_loop (zr z).1 (zr z).2 (dig_dg _) (by omega) (by rw [zr_val]; omega) (by rw [zr_val]; omega) (zr z).2.length 0 (Nat.le_refl _) (by decide) (by rw [ps_val _ _ (Nat.le_refl _)]; simp)
        rw [zr_val] at hl
        refine Ev.step (fun k => ?_) hl
        simp only [spyref1_Z_Small.j0]
        rw [hnot, if_neg (by decide), w64 _ (by omega) (by omega)]
        simp
end Go.Proofs.Ytmgcmknobnonhaa.Dig
