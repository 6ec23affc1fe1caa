/- The contracts of math/bits.Add64, (num.Wide).Neg, num.size and num.Product at this program: a Wide stands for a number, Neg turns its sign, and the product of two machine words is the number. Conditions: the words are machine words. -/
import Derived.Test.YtmgcmknobnonhaaProg
import Derived.WalkKit
import Derived.WalkSpells
import Derived.StillTactics
import Derived.Laws.Pointers
import Derived.Laws.Externs
import Derived.Laws.BitsAllLaws
import Derived.Deep.RegionHeld3
import Derived.RowKit3
import Derived.Below
import Derived.Test.YtmgcmknobnonhaaLib
import Derived.Lib.Hide
import Derived.Test.YtmgcmknobnonhaaPNumMulDivsx0
namespace Go.Proofs.Ytmgcmknobnonhaa.Num
open Go.RowKit
def Word (x : Int) : Prop := 0 ≤ x ∧ x < 18446744073709551616
def Whole (x : Int) : Prop := -9223372036854775808 ≤ x ∧ x < 9223372036854775808
theorem add64 (x y c : Int) (hx : 0 ≤ x) (hy : 0 ≤ y) (hc0 : 0 ≤ c) (hc : c ≤ 1) (w : World) : (callFunc 28 #[.int .u64 x, .int .u64 y, .int .u64 c]).run Try.prog w =
    .ok (.value (.tuple #[.int .u64 ((x + y + c) % 18446744073709551616), .int .u64 ((x + y + c) / 18446744073709551616)])) w := by
  rw [run_callFunc_extern Try.func28 (by kernel_rfl) (by kernel_rfl) (by kernel_rfl) (e := add64Entry) (by kernel_rfl), run_add64 x y c hx hy hc0 hc]
  rfl
def nt (l : Int) : Int := 18446744073709551615 - l
def uw (h : Int) : Int := h % 18446744073709551616
def lo2 (x y : Int) : Int := (x + y) % 18446744073709551616
def cr2 (x y : Int) : Int := (x + y) / 18446744073709551616
def lo3 (x y c : Int) : Int := (x + y + c) % 18446744073709551616
def cr3 (x y c : Int) : Int := (x + y + c) / 18446744073709551616
theorem add64_0 (x y : Int) (hx : 0 ≤ x) (hy : 0 ≤ y) (w : World) : (callFunc 28 #[.int .u64 x, .int .u64 y, .int .u64 0]).run Try.prog w =
    .ok (.value (.tuple #[.int .u64 (lo2 x y), .int .u64 (cr2 x y)])) w := by
  have h := add64 x y 0 hx hy (Int.le_refl _) (by decide) w
  rw [Int.add_zero] at h
  exact h
theorem add64_3 (x y c : Int) (hx : 0 ≤ x) (hy : 0 ≤ y) (hc0 : 0 ≤ c) (hc : c ≤ 1) (w : World) : (callFunc 28 #[.int .u64 x, .int .u64 y, .int .u64 c]).run Try.prog w =
    .ok (.value (.tuple #[.int .u64 (lo3 x y c), .int .u64 (cr3 x y c)])) w := add64 x y c hx hy hc0 hc w
theorem xor_max (l : Int) (hl : Word l) : bits .xor .u64 IntKind.u64.max l = nt l := by
  obtain ⟨h0, h1⟩ := hl
  obtain ⟨n, rfl⟩ := Int.eq_ofNat_of_zero_le h0
  have h2 : (BitVec.ofInt 64 (n : Int)).toNat = n := by
    rw [BitVec.ofInt_natCast, BitVec.toNat_ofNat]; exact Nat.mod_eq_of_lt (by omega)
  have h3 : BitVec.ofInt 64 IntKind.u64.max = BitVec.allOnes 64 := by decide
  show IntKind.u64.wrap ((BitVec.ofInt 64 IntKind.u64.max ^^^ BitVec.ofInt 64 (n : Int)).toNat : Int) = _
  rw [h3, BitVec.allOnes_xor, BitVec.toNat_not, h2, IntKind.wrap_u64]
  unfold nt
  omega
theorem uw_wrap (h : Int) : IntKind.u64.wrap h = uw h := by rw [IntKind.wrap_u64]; rfl
theorem uw_word (h : Int) : Word (uw h) := by unfold uw Word; omega
theorem nt_pos {l : Int} (h : Word l) : 0 ≤ nt l := by unfold nt; have := h.2; omega
theorem nt_word {l : Int} (h : Word l) : Word (nt l) := by unfold nt; obtain ⟨a, b⟩ := h; exact ⟨by omega, by omega⟩
theorem cr2_pos {x y : Int} (hx : Word x) (hy : Word y) : 0 ≤ cr2 x y := by unfold cr2; obtain ⟨a, b⟩ := hx; obtain ⟨c, d⟩ := hy; omega
theorem cr2_le {x y : Int} (hx : Word x) (hy : Word y) : cr2 x y ≤ 1 := by unfold cr2; obtain ⟨a, b⟩ := hx; obtain ⟨c, d⟩ := hy; omega
theorem word_one : Word 1 := ⟨by decide, by decide⟩
theorem word_zero : Word 0 := ⟨by decide, by decide⟩
set_option maxHeartbeats 400000 in
theorem neg_raw (hi lo : Int) (w : World) (hl : Word lo) :
    Calls Try.prog 26 #[.agg #[.int .i64 hi, .int .u64 lo]] w fun e w' => e = .returned (.agg #[.int .i64 (wrap64 (lo3 (nt (uw hi)) 0 (cr2 (nt lo) 1))), .int .u64 (lo2 (nt lo) 1)]) ∧ Below w.heap.size w w' := by
  have e1 := xor_max lo hl
  have e2 := xor_max (uw hi) (uw_word hi)
  have e3 := uw_wrap hi
  have p1 := nt_pos hl
  have p2 := nt_pos (uw_word hi)
  have p3 := cr2_pos (nt_word hl) word_one
  have p4 := cr2_le (nt_word hl) word_one
  clear hl
  go_enter Try.func26, Try.ntmps26
  go_wp2_with (first | simp only [add64_0 (nt lo) 1 p1 (by decide)] | simp only [add64_3 (nt (uw hi)) 0 (cr2 (nt lo) 1) p2 (by decide) p3 p4])
  refine bodyPost_ret (v := .agg #[.int .i64 (wrap64 (lo3 (nt (uw hi)) 0 (cr2 (nt lo) 1))), .int .u64 (lo2 (nt lo) 1)]) (by simp [results, Try.results26, go_sem]) rfl ⟨rfl, ?_⟩
  exact ((Below.refl _ _).alloc (Nat.le_refl _) _).alloc (by simp) _

/-- The number n as a Wide: its high word and its low word. -/
def wh (n : Int) : Int := n / 18446744073709551616
def wl (n : Int) : Int := n % 18446744073709551616
theorem word_wl (n : Int) : Word (wl n) := by unfold wl Word; omega
theorem whole_wh (n : Int) (h1 : -170141183460469231731687303715884105728 ≤ n) (h2 : n < 170141183460469231731687303715884105728) : Whole (wh n) := by unfold wh Whole; omega
theorem neg_num (n : Int) (h1 : -170141183460469231731687303715884105728 < n) (h2 : n < 170141183460469231731687303715884105728) :
    wrap64 (lo3 (nt (uw (wh n))) 0 (cr2 (nt (wl n)) 1)) = wh (-n) ∧ lo2 (nt (wl n)) 1 = wl (-n) := by
  unfold wrap64 lo3 cr2 nt uw lo2 wh wl
  omega
theorem neg_wide (n : Int) (w : World) (h1 : -170141183460469231731687303715884105728 < n) (h2 : n < 170141183460469231731687303715884105728) :
    Calls Try.prog 26 #[.agg #[.int .i64 (wh n), .int .u64 (wl n)]] w fun e w' => e = .returned (.agg #[.int .i64 (wh (-n)), .int .u64 (wl (-n))]) ∧ Below w.heap.size w w' := by
  have h := neg_raw (wh n) (wl n) w (word_wl n)
  rw [(neg_num n h1 h2).1, (neg_num n h1 h2).2] at h
  exact h
end Go.Proofs.Ytmgcmknobnonhaa.Num
namespace Go.Proofs.Ytmgcmknobnonhaa.Num
open Go.RowKit Go.Proofs.YtmgcmknobnonhaaW.PrintWords
theorem bcell {W w1 : World} (hb : Below W.heap.size W w1) : (∀ b o, b < W.heap.size → w1.cell? ⟨b, o, none⟩ = W.cell? ⟨b, o, none⟩) ∧ (∀ b o, b < W.heap.size → w1.frozen? ⟨b, o, none⟩ = W.frozen? ⟨b, o, none⟩) :=
  ⟨fun b o h => hb.cell (p := ⟨b, o, none⟩) h, fun b o h => hb.frozen (p := ⟨b, o, none⟩) h⟩
def ab (a : Int) : Int := if a < 0 then -a else a
theorem mul64 (x y : Int) (hx : Word x) (hy : Word y) (w : World) :
    Calls Try.prog 24 #[.int .u64 x, .int .u64 y] w fun e w' => e = .returned (.tuple #[.int .u64 (wh (x * y)), .int .u64 (wl (x * y))]) ∧ w = w' := by
  obtain ⟨h0, h1⟩ := hx
  obtain ⟨g0, g1⟩ := hy
  obtain ⟨x, rfl⟩ := Int.eq_ofNat_of_zero_le h0
  obtain ⟨y, rfl⟩ := Int.eq_ofNat_of_zero_le g0
  refine (Go.Proofs.Try.bits_Mul64 x y (by omega) (by omega) w).mono ?_
  rintro e w' ⟨rfl, rfl⟩
  refine ⟨?_, rfl⟩
  unfold wh wl
  rw [← Int.natCast_mul]
  rfl
theorem size_num (a : Int) (ha : Whole a) (h : a < 0) : IntKind.u64.wrap (-(IntKind.u64.wrap a)) = ab a := by
  obtain ⟨h0, h1⟩ := ha
  simp only [IntKind.wrap_u64]
  unfold ab
  rw [if_pos h]
  omega
theorem size_num' (a : Int) (ha : Whole a) (h : ¬ a < 0) : IntKind.u64.wrap a = ab a := by
  obtain ⟨h0, h1⟩ := ha
  simp only [IntKind.wrap_u64]
  unfold ab
  rw [if_neg h]
  omega
theorem ab_word (a : Int) (ha : Whole a) : Word (ab a) := by
  obtain ⟨h0, h1⟩ := ha
  unfold ab Word
  split <;> omega
set_option maxHeartbeats 400000 in
theorem size_any (a : Int) (ha : Whole a) (w : World) :
    Calls Try.prog 25 #[.int .i64 a] w fun e w' => e = .returned (.int .u64 (ab a)) ∧ w = w' := by
  by_cases h : a < 0
  · have e1 := size_num a ha h
    clear ha
    go_enter Try.func25, Try.ntmps25
    go_wp2
    go_ret
    exact ⟨rfl, rfl⟩
  · have e1 := size_num' a ha h
    clear ha
    go_enter Try.func25, Try.ntmps25
    go_wp2
    go_ret
    exact ⟨rfl, rfl⟩
/-- Product, its four ways: the high and the low word of |a| * |b|, negated where the signs differ. -/
theorem prod_bound (a b : Int) (ha : Whole a) (hb : Whole b) : 0 ≤ ab a * ab b ∧ ab a * ab b ≤ 85070591730234615865843651857942052864 := by
  have h1 : 0 ≤ ab a ∧ ab a ≤ 9223372036854775808 := by obtain ⟨x, y⟩ := ha; unfold ab; split <;> omega
  have h2 : 0 ≤ ab b ∧ ab b ≤ 9223372036854775808 := by obtain ⟨x, y⟩ := hb; unfold ab; split <;> omega
  refine ⟨Int.mul_nonneg h1.1 h2.1, ?_⟩
  have := Int.mul_le_mul h1.2 h2.2 h2.1 (by decide)
  omega
theorem mh_wrap (a b : Int) (ha : Whole a) (hb : Whole b) : wrap64 (wh (ab a * ab b)) = wh (ab a * ab b) := by
  have h := prod_bound a b ha hb
  unfold wh wrap64
  generalize ab a * ab b = p at h
  omega
theorem prod_pos (a b : Int) (h : (a < 0 ↔ b < 0)) : ab a * ab b = a * b := by
  unfold ab
  by_cases h1 : a < 0
  · rw [if_pos h1, if_pos (h.1 h1), Int.neg_mul_neg]
  · rw [if_neg h1, if_neg (fun h2 => h1 (h.2 h2))]
theorem prod_neg (a b : Int) (h : ¬ (a < 0 ↔ b < 0)) : -(ab a * ab b) = a * b := by
  unfold ab
  by_cases h1 : a < 0
  · rw [if_pos h1, if_neg (fun h2 => h ⟨fun _ => h2, fun _ => h1⟩), Int.neg_mul, Int.neg_neg]
  · by_cases h2 : b < 0
    · rw [if_neg h1, if_pos h2, Int.mul_neg, Int.neg_neg]
    · exact absurd ⟨fun x => absurd x h1, fun x => absurd x h2⟩ h
set_option maxHeartbeats 400000 in
theorem product_same (a b : Int) (ha : Whole a) (hb : Whole b) (h : (!(decide (a < 0) == decide (b < 0))) = false) (w : World) :
    Calls Try.prog 15 #[.int .i64 a, .int .i64 b] w fun e w' => e = .returned (.agg #[.int .i64 (wh (ab a * ab b)), .int .u64 (wl (ab a * ab b))]) ∧ Below w.heap.size w w' := by
  have wa := ab_word a ha
  have wb := ab_word b hb
  have e1 := mh_wrap a b ha hb
  go_enter Try.func15, Try.ntmps15
  go_wp2_with fail
  refine (size_any a ha _).mono ?_
  rintro e w' ⟨rfl, rfl⟩
  go_wp2_with fail
  refine (size_any b hb _).mono ?_
  rintro e w' ⟨rfl, rfl⟩
  go_wp2_with fail
  refine (mul64 _ _ wa wb _).mono ?_
  rintro e w' ⟨rfl, rfl⟩
  go_wp2
  refine bodyPost_ret (v := .agg #[.int .i64 (wh (ab a * ab b)), .int .u64 (wl (ab a * ab b))]) (by simp [results, Try.results15, go_sem]) rfl ⟨rfl, ?_⟩
  exact ((Below.refl _ _).alloc (Nat.le_refl _) _).alloc (by simp) _
set_option maxHeartbeats 400000 in
theorem product_other (a b : Int) (ha : Whole a) (hb : Whole b) (h : (!(decide (a < 0) == decide (b < 0))) = true) (w : World) :
    Calls Try.prog 15 #[.int .i64 a, .int .i64 b] w fun e w' => e = .returned (.agg #[.int .i64 (wh (-(ab a * ab b))), .int .u64 (wl (-(ab a * ab b)))]) ∧ Below w.heap.size w w' := by
  have wa := ab_word a ha
  have wb := ab_word b hb
  have e1 := mh_wrap a b ha hb
  have pb := prod_bound a b ha hb
  have PB := Lib.hid pb
  clear pb
  go_enter Try.func15, Try.ntmps15
  go_wp2_with fail
  refine (size_any a ha _).mono ?_
  rintro e w' ⟨rfl, rfl⟩
  go_wp2_with fail
  refine (size_any b hb _).mono ?_
  rintro e w' ⟨rfl, rfl⟩
  go_wp2_with fail
  refine (mul64 _ _ wa wb _).mono ?_
  rintro e w' ⟨rfl, rfl⟩
  go_wp2_with fail
  refine (neg_wide (ab a * ab b) _ (by have := PB.out; omega) (by have := PB.out; omega)).mono ?_
  rintro e w1 ⟨rfl, hb1⟩
  obtain ⟨hc, hf⟩ := bcell hb1
  have hz : w.heap.size + 1 < w1.heap.size := by have := hb1.size; simp at this; omega
  go_wp2
  have k1 : w1.heap[w.heap.size]? = some (.cells #[.int .i64 0, .int .u64 0] 39 (0, 0)) := blk_below (blk_alloc (blk_new w _) _) hb1
  refine bodyPost_ret (results_cell_row rfl _ _ w.heap.size 39 #[.int .i64 (wh (-(ab a * ab b))), .int .u64 (wl (-(ab a * ab b)))] (0, 0) _ rfl (blk_put (blk_put k1 0 _ rfl) 1 _ rfl) Try.underlying39 rfl (by kernel_rfl)) rfl ⟨rfl, ?_⟩
  exact below_set (below_set (below_step (below_alloc (below_alloc (Below.refl _ _) _) _) hb1) (Nat.le_refl _)) (Nat.le_refl _)
theorem sign_test {a b : Int} (h : a < 0 ↔ b < 0) : (!(decide (a < 0) == decide (b < 0))) = false := by
  have : decide (a < 0) = decide (b < 0) := decide_eq_decide.2 h
  rw [this]
  simp
theorem sign_test' {a b : Int} (h : ¬ (a < 0 ↔ b < 0)) : (!(decide (a < 0) == decide (b < 0))) = true := by
  have : decide (a < 0) ≠ decide (b < 0) := fun e => h (decide_eq_decide.1 e)
  simp [this]
theorem product_any (a b : Int) (ha : Whole a) (hb : Whole b) (w : World) :
    Calls Try.prog 15 #[.int .i64 a, .int .i64 b] w fun e w' => e = .returned (.agg #[.int .i64 (wh (a * b)), .int .u64 (wl (a * b))]) ∧ Below w.heap.size w w' := by
  by_cases h : a < 0 ↔ b < 0
  · have h1 := product_same a b ha hb (sign_test h) w
    rw [prod_pos a b h] at h1
    exact h1
  · have h1 := product_other a b ha hb (sign_test' h) w
    rw [prod_neg a b h] at h1
    exact h1
end Go.Proofs.Ytmgcmknobnonhaa.Num
