/- The contracts of (num.Wide).Div and Mod at this program, over the number that the Wide stands for. Conditions: the number has 128 bits; the divisor is a machine word. -/
import Derived.Test.YtmgcmknobnonhaaDiv
namespace Go.Proofs.Ytmgcmknobnonhaa.Num
open Go.RowKit Go.Proofs.YtmgcmknobnonhaaW.PrintWords
set_option linter.unusedVariables false
theorem wide_eq (n : Int) : wh n * 18446744073709551616 + wl n = n := by unfold wh wl; omega
theorem div64_q (n d q r : Int) (w : World) (h0 : 0 ≤ n) (h1 : n < 170141183460469231731687303715884105728) (hd : Whole d) (hy : wh n < d) (hq : RowKit.Hid (n / d = q)) (hr : RowKit.Hid (n % d = r)) :
    Calls Try.prog 27 #[.int .u64 (wh n), .int .u64 (wl n), .int .u64 d] w fun e w' => e = .returned (.tuple #[.int .u64 q, .int .u64 r]) ∧ Below w.heap.size w w' := by
  have h := div64_any (wh n) (wl n) d w (by unfold wh Word; omega) (word_wl n) (by have := hd.2; unfold wh at hy; unfold Word; omega) hy
  rw [wide_eq] at h
  rw [hq.out, hr.out] at h
  exact h
set_option maxHeartbeats 400000 in
theorem wdiv_low (n d : Int) (w : World) (h : d < 1) :
    Calls Try.prog 16 #[.agg #[.int .i64 (wh n), .int .u64 (wl n)], .int .i64 d] w fun e w' => e = .returned (.tuple #[.int .i64 0, .int .i64 1]) ∧ Below w.heap.size w w' := by
  go_enter Try.func16, Try.ntmps16
  go_wp2
  go_ret2
  exact ⟨rfl, below_alloc (Below.refl _ _) _⟩
/-- What a quotient comes to: itself and OK (0) if it fits, else 0 and ErrLarge (2). -/
def fitB (q : Int) : Bool := decide (-9223372036854775808 ≤ q) && decide (q < 9223372036854775808)
def qv (q : Int) : Int := if fitB q = true then q else 0
def qe (q : Int) : Int := if fitB q = true then 0 else 2
theorem q_yes {q : Int} (h0 : -9223372036854775808 ≤ q) (h1 : q < 9223372036854775808) : qv q = q ∧ qe q = 0 := by
  have h : fitB q = true := by unfold fitB; rw [decide_eq_true h0, decide_eq_true h1]; rfl
  unfold qv qe
  rw [if_pos h, if_pos h]
  exact ⟨rfl, rfl⟩
theorem q_no {q : Int} (h : q < -9223372036854775808 ∨ 9223372036854775808 ≤ q) : qv q = 0 ∧ qe q = 2 := by
  have h : ¬ fitB q = true := by
    unfold fitB
    rcases h with h | h
    · rw [decide_eq_false (by omega)]; simp
    · rw [decide_eq_false (p := q < 9223372036854775808) (by omega)]; simp
  unfold qv qe
  rw [if_neg h, if_neg h]
  exact ⟨rfl, rfl⟩
theorem ret_two {a b c d : Int} (h1 : a = c) (h2 : b = d) : Ending.returned (.tuple #[.int .i64 a, .int .i64 b]) = .returned (.tuple #[.int .i64 c, .int .i64 d]) := by rw [h1, h2]
theorem big_quot {n d q : Int} (h : RowKit.Hid (n / d = q)) (h1 : 1 ≤ d) (hn : d ≤ wh n) : 18446744073709551616 ≤ q := by
  rw [← h.out]
  refine (Int.le_ediv_iff_mul_le (by omega)).2 ?_
  unfold wh at hn
  omega
theorem w64_id {q : Int} (h0 : -9223372036854775808 ≤ q) (h1 : q < 9223372036854775808) : wrap64 q = q := by unfold wrap64; omega
set_option maxHeartbeats 400000 in
theorem wdiv_pos (n d q : Int) (w : World) (hd : Whole d) (h1 : 1 ≤ d) (n0 : 0 ≤ wh n) (n1 : 0 ≤ n) (n2 : n < 170141183460469231731687303715884105728) (e1 : IntKind.u64.wrap (wh n) = wh n) (e2 : IntKind.u64.wrap d = d) (hq : RowKit.Hid (n / d = q)) :
    Calls Try.prog 16 #[.agg #[.int .i64 (wh n), .int .u64 (wl n)], .int .i64 d] w fun e w' => e = .returned (.tuple #[.int .i64 (qv q), .int .i64 (qe q)]) ∧ Below w.heap.size w w' := by
  have N2 := Lib.hid n2
  clear n2
  have hq0 : 0 ≤ q := by rw [← hq.out]; exact Int.ediv_nonneg n1 (by omega)
  obtain ⟨r, hr⟩ : ∃ r, RowKit.Hid (n % d = r) := ⟨_, rfl⟩
  by_cases t : wh n < d
  · by_cases t2 : 9223372036854775807 < q
    · have F := Lib.hid (q_no (q := q) (.inr (by omega)))
      go_enter Try.func16, Try.ntmps16
      go_wp2_with fail
      refine (div64_q n d q r _ n1 N2.out hd t hq hr).mono ?_
      rintro e w1 ⟨rfl, hb1⟩
      obtain ⟨hc, hf⟩ := bcell hb1
      have hz : w.heap.size + 1 < w1.heap.size := by have := hb1.size; simp at this; omega
      go_wp2
      go_ret2
      exact ⟨ret_two F.out.1.symm F.out.2.symm, below_step (below_alloc (below_alloc (Below.refl _ _) _) _) hb1⟩
    · have F := Lib.hid (q_yes (q := q) (by omega) (by omega))
      have G := Lib.hid (w64_id (q := q) (by omega) (by omega))
      go_enter Try.func16, Try.ntmps16
      go_wp2_with fail
      refine (div64_q n d q r _ n1 N2.out hd t hq hr).mono ?_
      rintro e w1 ⟨rfl, hb1⟩
      obtain ⟨hc, hf⟩ := bcell hb1
      have hz : w.heap.size + 1 < w1.heap.size := by have := hb1.size; simp at this; omega
      go_wp2
      go_ret2
      exact ⟨ret_two (by first | exact F.out.1.symm | exact G.out.trans F.out.1.symm) F.out.2.symm, below_step (below_alloc (below_alloc (Below.refl _ _) _) _) hb1⟩
  · have B := big_quot hq h1 (by omega)
    have F := Lib.hid (q_no (q := q) (.inr (by omega)))
    clear B
    go_enter Try.func16, Try.ntmps16
    go_wp2
    go_ret2
    exact ⟨ret_two F.out.1.symm F.out.2.symm, below_alloc (below_alloc (Below.refl _ _) _) _⟩
theorem neg_wide' (n m : Int) (w : World) (hm : RowKit.Hid (m = -n)) (h0 : 0 ≤ m) (h2 : RowKit.Hid (m < 170141183460469231731687303715884105728)) :
    Calls Try.prog 26 #[.agg #[.int .i64 (wh n), .int .u64 (wl n)]] w fun e w' => e = .returned (.agg #[.int .i64 (wh m), .int .u64 (wl m)]) ∧ Below w.heap.size w w' := by
  have h := neg_wide n w (by have := hm.out; have := h2.out; omega) (by have := hm.out; omega)
  rw [← hm.out] at h
  exact h
theorem neg_word {p : Int} (h0 : 0 ≤ p) (h1 : p ≤ 9223372036854775808) : wrap64 (IntKind.u64.wrap (-p)) = -p := by
  rw [IntKind.wrap_u64]
  unfold wrap64
  omega
theorem neg_quot {n m d q p r : Int} (h1 : 1 ≤ d) (hm : RowKit.Hid (m = -n)) (hq : RowKit.Hid (n / d = q)) (hp : RowKit.Hid (m / d = p)) (hr : RowKit.Hid (m % d = r)) :
    (0 < r → q = -p - 1) ∧ (¬ 0 < r → q = -p) ∧ 0 ≤ r := by
  have e1 := Int.emod_add_mul_ediv m d
  have e2 := Int.emod_nonneg m (b := d) (by omega)
  have e3 := Int.emod_lt_of_pos m (b := d) (by omega)
  rw [hp.out] at e1
  rw [hr.out] at e1 e2 e3
  have em := hm.out
  rw [← hq.out]
  refine ⟨fun h => ?_, fun h => ?_, e2⟩
  · refine ((Int.ediv_emod_unique (a := n) (b := d) (r := d - r) (q := -p - 1) (by omega)).2 ⟨?_, by omega, by omega⟩).1
    rw [Int.mul_sub, Int.mul_neg, Int.mul_one]
    omega
  · refine ((Int.ediv_emod_unique (a := n) (b := d) (r := 0) (q := -p) (by omega)).2 ⟨?_, by omega, by omega⟩).1
    rw [Int.mul_neg]
    omega
set_option maxHeartbeats 400000 in
/-- The negative number: m = -n, its quotient p and remainder r. -/
theorem wdiv_neg (n m d q p r : Int) (w : World) (hd : Whole d) (h1 : 1 ≤ d) (n0 : wh n < 0) (m0 : 0 ≤ m) (m1 : 0 ≤ wh m) (m2 : m < 170141183460469231731687303715884105728) (hm : RowKit.Hid (m = -n)) (e1 : IntKind.u64.wrap (wh m) = wh m) (e2 : IntKind.u64.wrap d = d) (hq : RowKit.Hid (n / d = q)) (hp : RowKit.Hid (m / d = p)) (hr : RowKit.Hid (m % d = r)) :
    Calls Try.prog 16 #[.agg #[.int .i64 (wh n), .int .u64 (wl n)], .int .i64 d] w fun e w' => e = .returned (.tuple #[.int .i64 (qv q), .int .i64 (qe q)]) ∧ Below w.heap.size w w' := by
  have N2 := Lib.hid m2
  clear m2
  obtain ⟨Q1, Q2, r0⟩ := neg_quot h1 hm hq hp hr
  have hp0 : 0 ≤ p := by rw [← hp.out]; exact Int.ediv_nonneg m0 (by omega)
  by_cases t : wh m < d
  · by_cases tr : 0 < r
    · have Q := Lib.hid (Q1 tr)
      clear Q1 Q2
      by_cases t2 : 9223372036854775807 < p
      · have F := Lib.hid (q_no (q := q) (.inl (by have := Q.out; omega)))
        go_enter Try.func16, Try.ntmps16
        go_wp2_with fail
        refine (neg_wide' n m _ hm m0 N2).mono ?_
        rintro e w1 ⟨rfl, hb1⟩
        obtain ⟨hc, hf⟩ := bcell hb1
        have hz : w.heap.size + 1 < w1.heap.size := by have := hb1.size; simp at this; omega
        have k1 : w1.heap[w.heap.size]? = some (.cells #[.int .i64 (wh n), .int .u64 (wl n)] 39 (0, 0)) := blk_below (blk_alloc (blk_new w _) _) hb1
        have hb2 := below_set (below_set (below_step (below_alloc (below_alloc (Below.refl _ w) _) _) hb1) (g := w.heap.size + 1) (by omega) (j := 0) (v := .int .i64 (wh m))) (g := w.heap.size + 1) (by omega) (j := 1) (v := .int .u64 (wl m))
        go_wp2_with fail
        refine (div64_q m d p r _ m0 N2.out hd t hp hr).mono ?_
        rintro e w2 ⟨rfl, hb3⟩
        have k2 := blk_cell (blk_below (blk_far (blk_far k1 (p := ⟨w.heap.size + 1, 0, none⟩) (by simp) _) (p := ⟨w.heap.size + 1, 1, none⟩) (by simp) _) hb3) 0
        replace k2 : w2.cell? ⟨w.heap.size, 0, none⟩ = some (.int .i64 (wh n)) := k2
        have hb4 := below_step hb2 hb3
        clear hc hf hb1 hb2 hb3 k1
        go_wp2
        go_ret2
        exact ⟨ret_two F.out.1.symm F.out.2.symm, hb4⟩
      · have F := Lib.hid (q_yes (q := q) (by have := Q.out; omega) (by have := Q.out; omega))
        have G := Lib.hid (neg_word (p := p) hp0 (by omega))
        have G2 := Lib.hid (w64_id (q := -p - 1) (by omega) (by omega))
        go_enter Try.func16, Try.ntmps16
        go_wp2_with fail
        refine (neg_wide' n m _ hm m0 N2).mono ?_
        rintro e w1 ⟨rfl, hb1⟩
        obtain ⟨hc, hf⟩ := bcell hb1
        have hz : w.heap.size + 1 < w1.heap.size := by have := hb1.size; simp at this; omega
        have k1 : w1.heap[w.heap.size]? = some (.cells #[.int .i64 (wh n), .int .u64 (wl n)] 39 (0, 0)) := blk_below (blk_alloc (blk_new w _) _) hb1
        have hb2 := below_set (below_set (below_step (below_alloc (below_alloc (Below.refl _ w) _) _) hb1) (g := w.heap.size + 1) (by omega) (j := 0) (v := .int .i64 (wh m))) (g := w.heap.size + 1) (by omega) (j := 1) (v := .int .u64 (wl m))
        go_wp2_with fail
        refine (div64_q m d p r _ m0 N2.out hd t hp hr).mono ?_
        rintro e w2 ⟨rfl, hb3⟩
        have k2 := blk_cell (blk_below (blk_far (blk_far k1 (p := ⟨w.heap.size + 1, 0, none⟩) (by simp) _) (p := ⟨w.heap.size + 1, 1, none⟩) (by simp) _) hb3) 0
        replace k2 : w2.cell? ⟨w.heap.size, 0, none⟩ = some (.int .i64 (wh n)) := k2
        have hb4 := below_step hb2 hb3
        clear hc hf hb1 hb2 hb3 k1
        go_wp2
        go_ret2
        exact ⟨ret_two ((congrArg (fun x => wrap64 (x - 1)) G.out).trans (G2.out.trans (Q.out.symm.trans F.out.1.symm))) F.out.2.symm, hb4⟩
    · have Q := Lib.hid (Q2 tr)
      clear Q1 Q2
      by_cases t2 : 9223372036854775808 < p
      · have F := Lib.hid (q_no (q := q) (.inl (by have := Q.out; omega)))
        go_enter Try.func16, Try.ntmps16
        go_wp2_with fail
        refine (neg_wide' n m _ hm m0 N2).mono ?_
        rintro e w1 ⟨rfl, hb1⟩
        obtain ⟨hc, hf⟩ := bcell hb1
        have hz : w.heap.size + 1 < w1.heap.size := by have := hb1.size; simp at this; omega
        have k1 : w1.heap[w.heap.size]? = some (.cells #[.int .i64 (wh n), .int .u64 (wl n)] 39 (0, 0)) := blk_below (blk_alloc (blk_new w _) _) hb1
        have hb2 := below_set (below_set (below_step (below_alloc (below_alloc (Below.refl _ w) _) _) hb1) (g := w.heap.size + 1) (by omega) (j := 0) (v := .int .i64 (wh m))) (g := w.heap.size + 1) (by omega) (j := 1) (v := .int .u64 (wl m))
        go_wp2_with fail
        refine (div64_q m d p r _ m0 N2.out hd t hp hr).mono ?_
        rintro e w2 ⟨rfl, hb3⟩
        have k2 := blk_cell (blk_below (blk_far (blk_far k1 (p := ⟨w.heap.size + 1, 0, none⟩) (by simp) _) (p := ⟨w.heap.size + 1, 1, none⟩) (by simp) _) hb3) 0
        replace k2 : w2.cell? ⟨w.heap.size, 0, none⟩ = some (.int .i64 (wh n)) := k2
        have hb4 := below_step hb2 hb3
        clear hc hf hb1 hb2 hb3 k1
        go_wp2
        go_ret2
        exact ⟨ret_two F.out.1.symm F.out.2.symm, hb4⟩
      · have F := Lib.hid (q_yes (q := q) (by have := Q.out; omega) (by have := Q.out; omega))
        have G := Lib.hid (neg_word (p := p) hp0 (by omega))
        go_enter Try.func16, Try.ntmps16
        go_wp2_with fail
        refine (neg_wide' n m _ hm m0 N2).mono ?_
        rintro e w1 ⟨rfl, hb1⟩
        obtain ⟨hc, hf⟩ := bcell hb1
        have hz : w.heap.size + 1 < w1.heap.size := by have := hb1.size; simp at this; omega
        have k1 : w1.heap[w.heap.size]? = some (.cells #[.int .i64 (wh n), .int .u64 (wl n)] 39 (0, 0)) := blk_below (blk_alloc (blk_new w _) _) hb1
        have hb2 := below_set (below_set (below_step (below_alloc (below_alloc (Below.refl _ w) _) _) hb1) (g := w.heap.size + 1) (by omega) (j := 0) (v := .int .i64 (wh m))) (g := w.heap.size + 1) (by omega) (j := 1) (v := .int .u64 (wl m))
        go_wp2_with fail
        refine (div64_q m d p r _ m0 N2.out hd t hp hr).mono ?_
        rintro e w2 ⟨rfl, hb3⟩
        have k2 := blk_cell (blk_below (blk_far (blk_far k1 (p := ⟨w.heap.size + 1, 0, none⟩) (by simp) _) (p := ⟨w.heap.size + 1, 1, none⟩) (by simp) _) hb3) 0
        replace k2 : w2.cell? ⟨w.heap.size, 0, none⟩ = some (.int .i64 (wh n)) := k2
        have hb4 := below_step hb2 hb3
        clear hc hf hb1 hb2 hb3 k1
        go_wp2
        go_ret2
        exact ⟨ret_two (G.out.trans (Q.out.symm.trans F.out.1.symm)) F.out.2.symm, hb4⟩
  · have B := big_quot hp h1 (by omega)
    have F := Lib.hid (q_no (q := q) (.inl (by by_cases tr : 0 < r; (have := Q1 tr; omega); (have := Q2 tr; omega))))
    clear B Q1 Q2
    go_enter Try.func16, Try.ntmps16
    go_wp2_with fail
    refine (neg_wide' n m _ hm m0 N2).mono ?_
    rintro e w1 ⟨rfl, hb1⟩
    obtain ⟨hc, hf⟩ := bcell hb1
    have hz : w.heap.size + 1 < w1.heap.size := by have := hb1.size; simp at this; omega
    go_wp2
    go_ret2
    exact ⟨ret_two F.out.1.symm F.out.2.symm, below_set (below_set (below_step (below_alloc (below_alloc (Below.refl _ _) _) _) hb1) (by omega)) (by omega)⟩
theorem uw_id {x : Int} (h0 : 0 ≤ x) (h1 : x < 9223372036854775808) : IntKind.u64.wrap x = x := wr _ h0 (by omega)
/-- (num.Wide).Div, every divisor from 1 on. -/
theorem wdiv_any (n d q : Int) (w : World) (hd : Whole d) (h1 : 1 ≤ d) (n1 : -170141183460469231731687303715884105728 < n) (n2 : n < 170141183460469231731687303715884105728) (hq : RowKit.Hid (n / d = q)) :
    Calls Try.prog 16 #[.agg #[.int .i64 (wh n), .int .u64 (wl n)], .int .i64 d] w fun e w' => e = .returned (.tuple #[.int .i64 (qv q), .int .i64 (qe q)]) ∧ Below w.heap.size w w' := by
  by_cases h : 0 ≤ n
  · exact wdiv_pos n d q w hd h1 (by unfold wh; omega) h n2 (uw_id (by unfold wh; omega) (by unfold wh; omega)) (uw_id (by omega) hd.2) hq
  · exact wdiv_neg n (-n) d q _ _ w hd h1 (by unfold wh; omega) (by omega) (by unfold wh; omega) (by omega) rfl (uw_id (by unfold wh; omega) (by unfold wh; omega)) (uw_id (by omega) hd.2) hq rfl rfl
end Go.Proofs.Ytmgcmknobnonhaa.Num
namespace Go.Proofs.Ytmgcmknobnonhaa.Num
open Go.RowKit Go.Proofs.YtmgcmknobnonhaaW.PrintWords
set_option linter.unusedVariables false
/-- Div64 at the high word's remainder. -/
theorem div64_r (n d r : Int) (w : World) (h0 : 0 ≤ n) (h1 : n < 170141183460469231731687303715884105728) (hd : Whole d) (d1 : 1 ≤ d) (hr : RowKit.Hid (n % d = r)) (q : Int) (hq : RowKit.Hid ((wh n % d * 18446744073709551616 + wl n) / d = q)) :
    Calls Try.prog 27 #[.int .u64 (wh n % d), .int .u64 (wl n), .int .u64 d] w fun e w' => e = .returned (.tuple #[.int .u64 q, .int .u64 r]) ∧ ∃ m, w' = w.drewN m := by
  have k0 : 0 ≤ wh n := by unfold wh; omega
  have k1 := Int.emod_nonneg (wh n) (b := d) (by omega)
  have k2 := Int.emod_lt_of_pos (wh n) (b := d) (by omega)
  have h := div64_quiet (wh n % d) (wl n) d w ⟨k1, by have := hd.2; omega⟩ (word_wl n) ⟨by omega, by have := hd.2; omega⟩ k2
  have e : (wh n % d * 18446744073709551616 + wl n) % d = r := by
    rw [← hr.out]
    conv => rhs; rw [← wide_eq n]
    rw [Int.add_emod, Int.mul_emod, Int.emod_emod, ← Int.mul_emod, ← Int.add_emod]
  rw [e, hq.out] at h
  exact h
theorem ret_one {a b : Int} (h : a = b) : Ending.returned (.int .i64 a) = .returned (.int .i64 b) := by rw [h]
set_option maxHeartbeats 400000 in
theorem wmod_low (n d : Int) (w : World) (h : d < 1) :
    Calls Try.prog 17 #[.agg #[.int .i64 (wh n), .int .u64 (wl n)], .int .i64 d] w fun e w' => e = .returned (.int .i64 0) ∧ Below w.heap.size w w' := by
  go_enter Try.func17, Try.ntmps17
  go_wp2
  go_ret
  exact ⟨rfl, below_alloc (Below.refl _ _) _⟩
set_option maxHeartbeats 400000 in
theorem wmod_pos (n d r : Int) (w : World) (hd : Whole d) (h1 : 1 ≤ d) (n0 : 0 ≤ wh n) (n1 : 0 ≤ n) (n2 : RowKit.Hid (n < 170141183460469231731687303715884105728)) (e1 : IntKind.u64.wrap (wh n) = wh n) (e2 : IntKind.u64.wrap d = d) (hr : RowKit.Hid (n % d = r)) (e3 : RowKit.Hid (wrap64 r = r)) :
    Calls Try.prog 17 #[.agg #[.int .i64 (wh n), .int .u64 (wl n)], .int .i64 d] w fun e w' => e = .returned (.int .i64 r) ∧ Below w.heap.size w w' := by
  have t : decide (wh n < 0) = false := decide_eq_false (by omega)
  obtain ⟨q, hq⟩ : ∃ q, RowKit.Hid ((wh n % d * 18446744073709551616 + wl n) / d = q) := ⟨_, rfl⟩
  go_enter Try.func17, Try.ntmps17
  go_wp2
  go_quiet ((go_at_call 27; exact Calls.quiet_of (div64_r n d r _ n1 n2.out hd h1 hr q hq)))
  go_wp2
  go_ret
  exact ⟨ret_one e3.out, pw_below_drewN (below_alloc (below_alloc (Below.refl _ _) _) _) _⟩
set_option maxHeartbeats 400000 in
/-- The negative number: m = -n, its remainder r; x is what comes back. -/
theorem wmod_neg (n m d r x : Int) (w : World) (hd : Whole d) (h1 : 1 ≤ d) (n0 : wh n < 0) (m0 : 0 ≤ m) (m1 : 0 ≤ wh m) (m2 : RowKit.Hid (m < 170141183460469231731687303715884105728)) (hm : RowKit.Hid (m = -n)) (e1 : IntKind.u64.wrap (wh m) = wh m) (e2 : IntKind.u64.wrap d = d) (hr : RowKit.Hid (m % d = r))
    (hx : (decide (0 < r) = true ∧ RowKit.Hid (wrap64 (IntKind.u64.wrap (d - r)) = x)) ∨ (decide (0 < r) = false ∧ RowKit.Hid (wrap64 r = x))) :
    Calls Try.prog 17 #[.agg #[.int .i64 (wh n), .int .u64 (wl n)], .int .i64 d] w fun e w' => e = .returned (.int .i64 x) ∧ Below w.heap.size w w' := by
  have t : decide (wh n < 0) = true := decide_eq_true (by omega)
  obtain ⟨q, hq⟩ : ∃ q, RowKit.Hid ((wh m % d * 18446744073709551616 + wl m) / d = q) := ⟨_, rfl⟩
  rcases hx with ⟨t2, e3⟩ | ⟨t2, e3⟩
  · go_enter Try.func17, Try.ntmps17
    go_wp2_with fail
    refine (neg_wide' n m _ hm m0 m2).mono ?_
    rintro e w1 ⟨rfl, hb1⟩
    obtain ⟨hc, hf⟩ := bcell hb1
    have hz : w.heap.size + 1 < w1.heap.size := by have := hb1.size; simp at this; omega
    go_wp2
    go_quiet ((go_at_call 27; exact Calls.quiet_of (div64_r m d r _ m0 m2.out hd h1 hr q hq)))
    go_wp2
    go_ret
    exact ⟨ret_one e3.out, pw_below_drewN (below_set (below_set (below_step (below_alloc (below_alloc (Below.refl _ _) _) _) hb1) (by omega)) (by omega)) _⟩
  · go_enter Try.func17, Try.ntmps17
    go_wp2_with fail
    refine (neg_wide' n m _ hm m0 m2).mono ?_
    rintro e w1 ⟨rfl, hb1⟩
    obtain ⟨hc, hf⟩ := bcell hb1
    have hz : w.heap.size + 1 < w1.heap.size := by have := hb1.size; simp at this; omega
    go_wp2
    go_quiet ((go_at_call 27; exact Calls.quiet_of (div64_r m d r _ m0 m2.out hd h1 hr q hq)))
    go_wp2
    go_ret
    exact ⟨ret_one e3.out, pw_below_drewN (below_set (below_set (below_step (below_alloc (below_alloc (Below.refl _ _) _) _) hb1) (by omega)) (by omega)) _⟩
/-- (num.Wide).Mod, every divisor from 1 on. -/
theorem wmod_any (n d : Int) (w : World) (hd : Whole d) (h1 : 1 ≤ d) (n1 : -170141183460469231731687303715884105728 < n) (n2 : n < 170141183460469231731687303715884105728) :
    Calls Try.prog 17 #[.agg #[.int .i64 (wh n), .int .u64 (wl n)], .int .i64 d] w fun e w' => e = .returned (.int .i64 (n % d)) ∧ Below w.heap.size w w' := by
  by_cases h : 0 ≤ n
  · have k1 := Int.emod_nonneg n (b := d) (by omega)
    have k2 := Int.emod_lt_of_pos n (b := d) (by omega)
    exact wmod_pos n d _ w hd h1 (by unfold wh; omega) h n2 (uw_id (by unfold wh; omega) (by unfold wh; omega)) (uw_id (by omega) hd.2) rfl (w64_id (by omega) (by have := hd.2; omega))
  · have k1 := Int.emod_nonneg (-n) (b := d) (by omega)
    have k2 := Int.emod_lt_of_pos (-n) (b := d) (by omega)
    have hd2 := hd.2
    refine wmod_neg n (-n) d (-n % d) (n % d) w hd h1 (by unfold wh; omega) (by omega) (by unfold wh; omega) (show -n < _ by omega) rfl (uw_id (by unfold wh; omega) (by unfold wh; omega)) (uw_id (by omega) hd.2) rfl ?_
    have e1 := Int.emod_add_mul_ediv (-n) d
    by_cases t : 0 < -n % d
    · refine .inl ⟨decide_eq_true t, ?_⟩
      have e : n % d = d - -n % d := by
        refine ((Int.ediv_emod_unique (a := n) (b := d) (r := d - -n % d) (q := -(-n / d) - 1) (by omega)).2 ⟨?_, by omega, by omega⟩).2
        rw [Int.mul_sub, Int.mul_neg, Int.mul_one]
        omega
      show wrap64 (IntKind.u64.wrap (d - -n % d)) = n % d
      rw [e, uw_id (by omega) (by omega), w64_id (by omega) (by omega)]
    · refine .inr ⟨decide_eq_false t, ?_⟩
      have e : n % d = -n % d := by
        refine ((Int.ediv_emod_unique (a := n) (b := d) (r := -n % d) (q := -(-n / d)) (by omega)).2 ⟨?_, by omega, by omega⟩).2
        rw [Int.mul_neg]
        omega
      show wrap64 (-n % d) = n % d
      rw [e, w64_id (by omega) (by omega)]
end Go.Proofs.Ytmgcmknobnonhaa.Num
