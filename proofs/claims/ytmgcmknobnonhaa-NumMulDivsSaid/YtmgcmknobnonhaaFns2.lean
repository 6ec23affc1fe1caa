/- What the reference's comparison and addition compute, as the walks tell it, at digit lists: cmpDigits, Cmp, sum, Plus and Less. Conditions: the digits are from 0 to 999999, the lists short. -/
import Derived.Test.YtmgcmknobnonhaaFns1
import Derived.Test.YtmgcmknobnonhaaZZCmp
import Derived.Test.YtmgcmknobnonhaaZZLess
namespace Go.Proofs.Ytmgcmknobnonhaa.Dig
open Go.RowKit Go.Proofs.YtmgcmknobnonhaaW.PrintWords Go.Proofs.Ytmgcmknobnonhaa.PNumMulDivs
/-- -1, 0 or 1. -/
def cmp (x y : Int) : Int := if x < y then -1 else if y < x then 1 else 0
theorem cmp_lt {x y : Int} (h : x < y) : cmp x y = -1 := if_pos h
theorem cmp_gt {x y : Int} (h : y < x) : cmp x y = 1 := by unfold cmp; rw [if_neg (by omega), if_pos h]
theorem cmp_eq {x y : Int} (h : x = y) : cmp x y = 0 := by unfold cmp; rw [if_neg (by omega), if_neg (by omega)]
theorem cmp_congr {x y x' y' : Int} (h1 : x < y ↔ x' < y') (h2 : y < x ↔ y' < x') : cmp x y = cmp x' y' := by
  rcases Int.lt_trichotomy x y with h | h | h
  · rw [cmp_lt h, cmp_lt (h1.1 h)]
  · rw [cmp_eq h, cmp_eq (by omega)]
  · rw [cmp_gt h, cmp_gt (h2.1 h)]
/-- From place i downwards; above i the digits are the same. -/
theorem cmp_loop (l m : List Int) (hl : Dig l) (hm : Dig m) (he : l.length = m.length) (hn : l.length < 1000000) (i : Nat) :
    i ≤ l.length → val l - ps l i = val m - ps m i → Ev (fun k => spyref1_cmpDigits.l0 k l m ((i : Int) - 1)) (cmp (val l) (val m)) := by
  induction i with
  | zero =>
    intro _ h
    rw [cmp_eq (by simp only [ps] at h; omega)]
    refine Ev.step (f := fun _ => some 0) (fun k => ?_) (Ev.now _)
    simp only [spyref1_cmpDigits.l0]
    rw [if_neg (by omega)]
  | succ i ih =>
    intro hi h
    have e1 : ((i + 1 : Nat) : Int) - 1 = (i : Int) := by omega
    have w1 : wrap64 ((i : Int) - 1) = (i : Int) - 1 := w64 _ (by omega) (by omega)
    have b1 := ps_bound hl i
    have b2 := ps_bound hm i
    have hp := pw_pos i
    simp only [ps] at h
    rw [e1]
    rcases Int.lt_trichotomy (l.getD i 0) (m.getD i 0) with t | t | t
    · have h2 : (l.getD i 0 + 1) * pw i ≤ m.getD i 0 * pw i := Int.mul_le_mul_of_nonneg_right (by omega) (by omega)
      rw [Int.add_mul, Int.one_mul] at h2
      rw [cmp_lt (by omega)]
      refine Ev.step (f := fun _ => some (-1)) (fun k => ?_) (Ev.now _)
      simp only [spyref1_cmpDigits.l0]
      rw [rd_nat, rd_nat, if_pos (by omega), if_pos (by omega), if_pos (by omega), if_pos (by omega), if_pos t]
    · refine Ev.step (fun k => ?_) (ih (by omega) (by rw [t] at h; omega))
      simp only [spyref1_cmpDigits.l0]
      rw [rd_nat, rd_nat, if_pos (by omega), if_pos (by omega), if_pos (by omega), if_pos (by omega), if_neg (by omega), if_neg (by omega), w1]
    · have h2 : (m.getD i 0 + 1) * pw i ≤ l.getD i 0 * pw i := Int.mul_le_mul_of_nonneg_right (by omega) (by omega)
      rw [Int.add_mul, Int.one_mul] at h2
      rw [cmp_gt (by omega)]
      refine Ev.step (f := fun _ => some 1) (fun k => ?_) (Ev.now _)
      simp only [spyref1_cmpDigits.l0]
      rw [rd_nat, rd_nat, if_pos (by omega), if_pos (by omega), if_pos (by omega), if_pos (by omega), if_neg (by omega), if_pos t]
theorem cmpDigits_said (x y : Nat) (hx : (dg x).length < 1000000) : Ev (fun k => spyref1_cmpDigits.f k (dg x) (dg y)) (cmp x y) := by
  rcases Nat.lt_trichotomy (dg x).length (dg y).length with t | t | t
  · have := dg_shorter t
    rw [cmp_lt (by omega)]
    refine Ev.congr (f := fun _ => some (-1)) (fun k => ?_) (Ev.now _)
    unfold spyref1_cmpDigits.f
    rw [if_neg (by omega), if_pos (by omega)]
  · have h := cmp_loop (dg x) (dg y) (dig_dg x) (dig_dg y) t hx (dg x).length (Nat.le_refl _) (by rw [ps_val _ _ (Nat.le_refl _), ps_val (dg y) _ (by omega)]; omega)
    rw [val_dg, val_dg] at h
    refine Ev.congr (fun k => ?_) h
    unfold spyref1_cmpDigits.f
    rw [if_pos (by omega), w64 _ (by omega) (by omega)]
  · have := dg_shorter t
    rw [cmp_gt (by omega)]
    refine Ev.congr (f := fun _ => some 1) (fun k => ?_) (Ev.now _)
    unfold spyref1_cmpDigits.f
    rw [if_neg (by omega), if_neg (by omega)]
theorem cmp_said (x y : Int) (hx : (zr x).2.length < 1000000) (hy : (zr y).2.length < 1000000) : Ev (fun k => spyref1_Z_Cmp.f k (zr x).1 (zr x).2 (zr y).1 (zr y).2) (cmp x y) := by
  unfold zr at hx hy ⊢
  simp only at hx hy ⊢
  by_cases h1 : x < 0
  · by_cases h2 : y < 0
    · rw [decide_eq_true h1, decide_eq_true h2]
      have h := cmpDigits_said y.natAbs x.natAbs hy
      have e : cmp y.natAbs x.natAbs = cmp x y := by
        exact cmp_congr (by omega) (by omega)
      rw [e] at h
      refine Ev.congr (fun k => ?_) (Ev.bind (f := fun _ t => some t) h (Ev.now _))
      unfold spyref1_Z_Cmp.f
      rw [if_neg (by decide), if_pos rfl]
    · rw [decide_eq_true h1, decide_eq_false h2, cmp_lt (by omega)]
      refine Ev.congr (fun k => ?_) (Ev.now _)
      unfold spyref1_Z_Cmp.f
      rw [if_pos (by decide), if_pos rfl]
  · by_cases h2 : y < 0
    · rw [decide_eq_false h1, decide_eq_true h2, cmp_gt (by omega)]
      refine Ev.congr (fun k => ?_) (Ev.now _)
      unfold spyref1_Z_Cmp.f
      rw [if_pos (by decide), if_neg (by decide)]
    · rw [decide_eq_false h1, decide_eq_false h2]
      have h := cmpDigits_said x.natAbs y.natAbs hx
      have e : cmp x.natAbs y.natAbs = cmp x y := by
        exact cmp_congr (by omega) (by omega)
      rw [e] at h
      refine Ev.congr (fun k => ?_) (Ev.bind (f := fun _ t => some t) h (Ev.now _))
      unfold spyref1_Z_Cmp.f
      rw [if_neg (by decide), if_neg (by decide)]
theorem rd_out (l : List Int) (i : Nat) (h : l.length ≤ i) : l.getD i 0 = 0 := by rw [List.getD_eq_getElem?_getD, List.getElem?_eq_none h]; rfl
/-- One round of sum, behind the test: the digit and the next carry. -/
theorem sum_round (l m out : List Int) (s c : Int) (i : Nat) (r : List Int) (hl : Dig l) (hm : Dig m) (hs : s = 1 ∨ s = -1) (hc : -1 ≤ c ∧ c ≤ 1) (ho : out.length = i) (hi : i < 1000000)
    (next : ∀ x c' : Int, 0 ≤ x → x < 1000000 → -1 ≤ c' → c' ≤ 1 → x + c' * 1000000 = c + l.getD i 0 + s * m.getD i 0 → Ev (fun k => spyref1_sum.l0 k l m s (out ++ [x]) c' ((i : Int) + 1)) r) :
    Ev (fun k => spyref1_sum.j1 k l m s out c (i : Int) true) r := by
  have a := hl.at i
  have b := hm.at i
  have w1 : wrap64 ((i : Int) + 1) = (i : Int) + 1 := w64 _ (by omega) (by omega)
  have ws : wrap64 (s * m.getD i 0) = s * m.getD i 0 := by rcases hs with rfl | rfl <;> exact w64 _ (by omega) (by omega)
  have bs : -999999 ≤ s * m.getD i 0 ∧ s * m.getD i 0 ≤ 999999 := by rcases hs with rfl | rfl <;> omega
  -- the last part
  have part3 : ∀ x : Int, x = c + l.getD i 0 + s * m.getD i 0 → Ev (fun k => spyref1_sum.j3 k l m s out (i : Int) x) r := by
    intro x hx
    by_cases h1 : 1000000 ≤ x
    · refine Ev.step (fun k => ?_) (next (x - 1000000) 1 (by omega) (by omega) (by omega) (by omega) (by omega))
      simp only [spyref1_sum.j3]
      rw [if_pos (by omega), w64 _ (by omega) (by omega), if_neg (by omega), if_pos (by omega), w1]
    · by_cases h2 : x < 0
      · refine Ev.step (fun k => ?_) (next (x + 1000000) (-1) (by omega) (by omega) (by omega) (by omega) (by omega))
        simp only [spyref1_sum.j3]
        rw [if_neg (by omega), if_pos h2, if_pos (by omega), w64 _ (by omega) (by omega), w1]
      · refine Ev.step (fun k => ?_) (next x 0 (by omega) (by omega) (by omega) (by omega) (by omega))
        simp only [spyref1_sum.j3]
        rw [if_neg (by omega), if_neg h2, if_pos (by omega), w1]
  have part2 : ∀ x : Int, x = c + l.getD i 0 → Ev (fun k => spyref1_sum.j2 k l m s out (i : Int) x) r := by
    intro x hx
    by_cases h : i < m.length
    · refine Ev.step (fun k => ?_) (part3 (x + s * m.getD i 0) (by omega))
      simp only [spyref1_sum.j2]
      rw [if_pos (by omega), if_pos (by omega), rd_nat, ws, w64 _ (by omega) (by omega)]
    · have e := rd_out m i (by omega)
      refine Ev.step (fun k => ?_) (part3 x (by rw [e, Int.mul_zero]; omega))
      simp only [spyref1_sum.j2]
      rw [if_neg (by omega)]
  by_cases h : i < l.length
  · refine Ev.step (fun k => ?_) (part2 (c + l.getD i 0) rfl)
    simp only [spyref1_sum.j1]
    rw [if_pos trivial, if_pos (by omega), if_pos (by omega), rd_nat, w64 _ (by omega) (by omega)]
  · have e := rd_out l i (by omega)
    refine Ev.step (fun k => ?_) (part2 c (by omega))
    simp only [spyref1_sum.j1]
    rw [if_pos trivial, if_neg (by omega)]
theorem mx_nat (a b : Nat) : mx (a : Int) (b : Int) = ((max a b : Nat) : Int) := by
  unfold mx
  split <;> omega
/-- The sum from place i on: n rounds at most are left. -/
theorem sum_loop (l m : List Int) (s : Int) (hl : Dig l) (hm : Dig m) (hs : s = 1 ∨ s = -1) (hg : 0 ≤ val l + s * val m) (hlen : max l.length m.length < 999990) (n : Nat) :
    ∀ (out : List Int) (c : Int) (i : Nat), out.length = i → Dig out → -1 ≤ c → c ≤ 1 → i ≤ max l.length m.length + 1 → (i = max l.length m.length + 1 → c ≤ 0) → max l.length m.length + 1 - i = n →
      val out + c * pw i = ps l i + s * ps m i →
      ∃ r : List Int, Ev (fun k => spyref1_sum.l0 k l m s out c (i : Int)) r ∧ Dig r ∧ val r = val l + s * val m ∧ r.length ≤ max l.length m.length + 1 := by
  induction n with
  | zero =>
    intro out c i ho hd c0 c1 hi hic hn hv
    have hi2 : i = max l.length m.length + 1 := by omega
    have hc := hic hi2
    rw [ps_val l i (by omega), ps_val m i (by omega)] at hv
    have hlt := val_lt hd
    rw [ho] at hlt
    have hp := pw_pos i
    have hc0 : c = 0 := by
      rcases (by omega : c = -1 ∨ c = 0) with h | h
      · subst h; omega
      · exact h
    subst hc0
    refine ⟨out, Ev.step (fun k => ?_) (Ev.step (f := fun _ => some out) (g := fun k => spyref1_sum.j1 k l m s out 0 (i : Int) false) (fun k => ?_) (Ev.now _)), hd, by omega, by omega⟩
    · simp only [spyref1_sum.l0]
      rw [mx_nat, if_neg (by omega)]
      rfl
    · simp only [spyref1_sum.j1]
      rw [if_neg (by decide)]
  | succ n ih =>
    intro out c i ho hd c0 c1 hi hic hn hv
    -- a round is gone
    have go : (i < max l.length m.length ∨ 0 < c) → ∃ r : List Int, Ev (fun k => spyref1_sum.l0 k l m s out c (i : Int)) r ∧ Dig r ∧ val r = val l + s * val m ∧ r.length ≤ max l.length m.length + 1 := by
      intro ht
      -- which digit and carry come next is fixed
      obtain ⟨x, c', x0, x1, d0, d1, e⟩ : ∃ x c' : Int, 0 ≤ x ∧ x < 1000000 ∧ -1 ≤ c' ∧ c' ≤ 1 ∧ x + c' * 1000000 = c + l.getD i 0 + s * m.getD i 0 := by
        have a := hl.at i
        have b := hm.at i
        have bs : -999999 ≤ s * m.getD i 0 ∧ s * m.getD i 0 ≤ 999999 := by rcases hs with rfl | rfl <;> omega
        exact ⟨(c + l.getD i 0 + s * m.getD i 0) % 1000000, (c + l.getD i 0 + s * m.getD i 0) / 1000000, by omega, by omega, by omega, by omega, by omega⟩
      have hlast : i + 1 = max l.length m.length + 1 → c' ≤ 0 := by
        intro h
        rw [rd_out l i (by omega), rd_out m i (by omega), Int.mul_zero] at e
        omega
      obtain ⟨r, hr, hdr, hvr, hlr⟩ := ih (out ++ [x]) c' (i + 1) (by simp [ho]) (hd.snoc x0 x1) d0 d1 (by omega) hlast (by omega) (by
        rw [val_snoc, ho]
        simp only [ps, pw]
        have e2 : pw i * x + c' * (1000000 * pw i) = (c + l.getD i 0 + s * m.getD i 0) * pw i := by
          rw [← e, Int.add_mul, Int.mul_comm (pw i) x, Int.mul_assoc]
        rw [Int.add_mul, Int.add_mul] at e2
        rw [Int.mul_add]
        rw [← Int.mul_assoc s]
        omega)
      refine ⟨r, ?_, hdr, hvr, hlr⟩
      have h2 : Ev (fun k => spyref1_sum.j1 k l m s out c (i : Int) true) r := by
        refine sum_round l m out s c i r hl hm hs ⟨c0, c1⟩ ho (by omega) ?_
        intro y d y0 y1 z0 z1 ey
        obtain ⟨rfl, rfl⟩ : y = x ∧ d = c' := by omega
        exact hr
      refine Ev.step (fun k => ?_) h2
      simp only [spyref1_sum.l0]
      rw [mx_nat]
      by_cases h3 : i < max l.length m.length
      · rw [if_pos (by omega)]
      · rw [if_neg (by omega), decide_eq_true (by omega)]
    by_cases h1 : i < max l.length m.length
    · exact go (.inl h1)
    · by_cases h2 : 0 < c
      · exact go (.inr h2)
      · rw [ps_val l i (by omega), ps_val m i (by omega)] at hv
        have hlt := val_lt hd
        rw [ho] at hlt
        have hp := pw_pos i
        have hc0 : c = 0 := by
          rcases (by omega : c = -1 ∨ c = 0) with h | h
          · subst h; omega
          · exact h
        subst hc0
        refine ⟨out, Ev.step (fun k => ?_) (Ev.step (f := fun _ => some out) (g := fun k => spyref1_sum.j1 k l m s out 0 (i : Int) false) (fun k => ?_) (Ev.now _)), hd, by omega, by omega⟩
        · simp only [spyref1_sum.l0]
          rw [mx_nat, if_neg (by omega)]
          rfl
        · simp only [spyref1_sum.j1]
          rw [if_neg (by decide)]
theorem sum_said (l m : List Int) (s : Int) (hl : Dig l) (hm : Dig m) (hs : s = 1 ∨ s = -1) (hg : 0 ≤ val l + s * val m) (hlen : max l.length m.length < 999990) :
    ∃ r : List Int, Ev (fun k => spyref1_sum.f k l m s) r ∧ Dig r ∧ val r = val l + s * val m ∧ r.length ≤ max l.length m.length + 1 :=
  sum_loop l m s hl hm hs hg hlen _ [] 0 0 rfl Dig.nil (by decide) (by decide) (by omega) (by omega) rfl (by simp [val, ps])
theorem sv_dg (neg : Bool) (n : Nat) : sv neg (dg n) = if neg = true then -(n : Int) else (n : Int) := by unfold sv; rw [val_dg]
theorem plus_said (x y : Int) (hx : (zr x).2.length < 900000) (hy : (zr y).2.length < 900000) : Ev (fun k => spyref1_Z_Plus.f k (zr x).1 (zr x).2 (zr y).1 (zr y).2) (zr (x + y)) := by
  unfold zr at hx hy
  simp only at hx hy
  show Ev (fun k => spyref1_Z_Plus.f k (decide (x < 0)) (dg x.natAbs) (decide (y < 0)) (dg y.natAbs)) (zr (x + y))
  by_cases hs : decide (x < 0) = decide (y < 0)
  · obtain ⟨r, h1, h2, h3, h4⟩ := sum_said (dg x.natAbs) (dg y.natAbs) 1 (dig_dg _) (dig_dg _) (.inl rfl) (by rw [val_dg, val_dg]; omega) (by omega)
    have h5 := trim_said (decide (x < 0)) r (by omega) h2
    have e : sv (decide (x < 0)) r = x + y := by
      unfold sv
      rw [h3, val_dg, val_dg]
      have := decide_eq_decide.1 hs
      by_cases h : x < 0
      · rw [decide_eq_true h, if_pos rfl]; omega
      · rw [decide_eq_false h, if_neg (by decide)]; omega
    rw [e] at h5
    refine Ev.congr (fun k => ?_) (Ev.bind (f := fun k t => (spyref1_trim.f k (decide (x < 0)) t).bind fun bt => some (bt.1, bt.2)) h1 (Ev.bind (f := fun _ bt => some (bt.1, bt.2)) h5 (Ev.now _)))
    unfold spyref1_Z_Plus.f
    rw [if_pos (by rw [hs]; simp)]
  · have hns : ¬ ((decide (x < 0) == decide (y < 0)) = true) := by simpa using hs
    have hss : ¬ (x < 0 ↔ y < 0) := fun h => hs (decide_eq_decide.2 h)
    have h0 := cmpDigits_said x.natAbs y.natAbs (by omega)
    by_cases hc : y.natAbs ≤ x.natAbs
    · have hcm : cmp x.natAbs y.natAbs ≥ 0 := by
        rcases (by omega : (y.natAbs : Int) < x.natAbs ∨ (x.natAbs : Int) = y.natAbs) with h | h
        · rw [cmp_gt h]; decide
        · rw [cmp_eq h]; decide
      obtain ⟨r, h1, h2, h3, h4⟩ := sum_said (dg x.natAbs) (dg y.natAbs) (-1) (dig_dg _) (dig_dg _) (.inr rfl) (by rw [val_dg, val_dg]; omega) (by omega)
      have h5 := trim_said (decide (x < 0)) r (by omega) h2
      have e : sv (decide (x < 0)) r = x + y := by
        unfold sv
        rw [h3, val_dg, val_dg]
        by_cases h : x < 0
        · rw [decide_eq_true h, if_pos rfl]; omega
        · rw [decide_eq_false h, if_neg (by decide)]; omega
      rw [e] at h5
      refine Ev.congr (fun k => ?_) (Ev.bind (f := fun k t => (if t ≥ 0 then ((spyref1_sum.f k (dg x.natAbs) (dg y.natAbs) (-1)).bind fun t179 => ((spyref1_trim.f k (decide (x < 0)) t179).bind fun bt182 => (some (bt182.1, bt182.2)))) else ((spyref1_sum.f k (dg y.natAbs) (dg x.natAbs) (-1)).bind fun t186 => ((spyref1_trim.f k (decide (y < 0)) t186).bind fun bt189 => (some (bt189.1, bt189.2)))))) h0 ?_)
      · unfold spyref1_Z_Plus.f
        rw [if_neg hns]
      · refine Ev.congr (fun k => ?_) (Ev.bind (f := fun k t => (spyref1_trim.f k (decide (x < 0)) t).bind fun bt => some (bt.1, bt.2)) h1 (Ev.bind (f := fun _ bt => some (bt.1, bt.2)) h5 (Ev.now _)))
        rw [if_pos hcm]
    · have hcm : ¬ cmp x.natAbs y.natAbs ≥ 0 := by rw [cmp_lt (by omega)]; decide
      obtain ⟨r, h1, h2, h3, h4⟩ := sum_said (dg y.natAbs) (dg x.natAbs) (-1) (dig_dg _) (dig_dg _) (.inr rfl) (by rw [val_dg, val_dg]; omega) (by omega)
      have h5 := trim_said (decide (y < 0)) r (by omega) h2
      have e : sv (decide (y < 0)) r = x + y := by
        unfold sv
        rw [h3, val_dg, val_dg]
        by_cases h : y < 0
        · rw [decide_eq_true h, if_pos rfl]; omega
        · rw [decide_eq_false h, if_neg (by decide)]; omega
      rw [e] at h5
      refine Ev.congr (fun k => ?_) (Ev.bind (f := fun k t => (if t ≥ 0 then ((spyref1_sum.f k (dg x.natAbs) (dg y.natAbs) (-1)).bind fun t179 => ((spyref1_trim.f k (decide (x < 0)) t179).bind fun bt182 => (some (bt182.1, bt182.2)))) else ((spyref1_sum.f k (dg y.natAbs) (dg x.natAbs) (-1)).bind fun t186 => ((spyref1_trim.f k (decide (y < 0)) t186).bind fun bt189 => (some (bt189.1, bt189.2)))))) h0 ?_)
      · unfold spyref1_Z_Plus.f
        rw [if_neg hns]
      · refine Ev.congr (fun k => ?_) (Ev.bind (f := fun k t => (spyref1_trim.f k (decide (y < 0)) t).bind fun bt => some (bt.1, bt.2)) h1 (Ev.bind (f := fun _ bt => some (bt.1, bt.2)) h5 (Ev.now _)))
        rw [if_neg hcm]
theorem zr_len_neg (y : Int) : (zr (-y)).2.length = (zr y).2.length := by unfold zr; simp only [Int.natAbs_neg]
theorem less_said (x y : Int) (hx : (zr x).2.length < 900000) (hy : (zr y).2.length < 900000) : Ev (fun k => spyref1_Z_Less.f k (zr x).1 (zr x).2 (zr y).1 (zr y).2) (zr (x - y)) := by
  have h1 := minus_said y (by omega)
  have h2 := plus_said x (-y) hx (by rw [zr_len_neg]; exact hy)
  rw [← Int.sub_eq_add_neg] at h2
  exact Ev.bind (f := fun k bt => (spyref1_Z_Plus.f k (zr x).1 (zr x).2 bt.1 bt.2).bind fun bt200 => some (bt200.1, bt200.2)) h1 (Ev.bind (f := fun _ bt => some (bt.1, bt.2)) h2 (Ev.now _))
end Go.Proofs.Ytmgcmknobnonhaa.Dig
