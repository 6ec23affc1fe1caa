/- The arithmetic under math/bits.Div64, with no program in sight: two steps of long division, and every value that its body computes. Conditions: the high word is below the divisor. -/
import Derived.Laws.BitsAllLaws
import Derived.Laws.Bits64b
import Derived.Lib.ItoaNum
namespace Go.Proofs.Ytmgcmknobnonhaa.Num
/-- The loop's state: q is at least the quotient Q of u * 2^32 + d by a * 2^32 + b, r is u - q * a and less than 2^32. -/
structure Inv (u a b d Q q r : Int) : Prop where
  a0 : 2147483648 ≤ a
  a1 : a < 4294967296
  b0 : 0 ≤ b
  b1 : b < 4294967296
  d0 : 0 ≤ d
  d1 : d < 4294967296
  u0 : 0 ≤ u
  u1 : u < a * 4294967296 + b
  hQ0 : Q * (a * 4294967296 + b) ≤ u * 4294967296 + d
  hQ1 : u * 4294967296 + d < (Q + 1) * (a * 4294967296 + b)
  qQ : Q ≤ q
  q1 : q ≤ 4294967297
  r0 : 0 ≤ r
  r1 : r < 4294967296
  e : r = u - q * a
theorem Inv.lt {u a b d Q q r : Int} (h : Inv u a b d Q q r) {x : Int} (hx : u * 4294967296 + d < x * (a * 4294967296 + b)) : Q < x :=
  Int.lt_of_mul_lt_mul_right (Int.lt_of_le_of_lt h.hQ0 hx) (by have := h.a0; have := h.b0; omega)
theorem Inv.le {u a b d Q q r : Int} (h : Inv u a b d Q q r) {x : Int} (hx : x * (a * 4294967296 + b) ≤ u * 4294967296 + d) : x ≤ Q :=
  Int.lt_add_one_iff.1 (Int.lt_of_mul_lt_mul_right (Int.lt_of_le_of_lt hx h.hQ1) (by have := h.a0; have := h.b0; omega))
theorem Inv.ltK {u a b d Q q r : Int} (h : Inv u a b d Q q r) : Q < 4294967296 :=
  h.lt (by have := h.u1; have := h.d1; generalize a * 4294967296 + b = Y at *; omega)
theorem Inv.nonneg {u a b d Q q r : Int} (h : Inv u a b d Q q r) : 0 ≤ Q :=
  h.le (by have := h.u0; have := h.d0; rw [Int.zero_mul]; omega)
theorem Inv.prod {x a b : Int} : x * (a * 4294967296 + b) = (x * a) * 4294967296 + x * b := by rw [Int.mul_add, ← Int.mul_assoc]
/-- The test says yes: the quotient is less than q. -/
theorem Inv.gt {u a b d Q q r : Int} (h : Inv u a b d Q q r) (ht : 4294967296 ≤ q ∨ 4294967296 * r + d < q * b) : Q < q := by
  rcases ht with ht | ht
  · have := h.ltK; omega
  · refine h.lt ?_
    rw [Inv.prod]
    have := h.e
    generalize q * a = p at *
    generalize q * b = t at *
    omega
/-- The test says no: q is the quotient. -/
theorem Inv.done {u a b d Q q r : Int} (h : Inv u a b d Q q r) (ht : q * b ≤ 4294967296 * r + d) : q = Q := by
  have h1 : q ≤ Q := by
    refine h.le ?_
    rw [Inv.prod]
    have := h.e
    generalize q * a = p at *
    generalize q * b = t at *
    omega
  have := h.qQ
  omega
theorem Inv.next {u a b d Q q r : Int} (h : Inv u a b d Q q r) (hq : Q < q) (hr : r + a < 4294967296) : Inv u a b d Q (q - 1) (r + a) := by
  refine ⟨h.a0, h.a1, h.b0, h.b1, h.d0, h.d1, h.u0, h.u1, h.hQ0, h.hQ1, by omega, by have := h.q1; omega, by have := h.r0; have := h.a0; omega, hr, ?_⟩
  rw [Int.sub_mul, h.e]
  omega
theorem Inv.stop {u a b d Q q r : Int} (h : Inv u a b d Q q r) (hq : Q < q) (hr : 4294967296 ≤ r + a) : q - 1 = Q := by
  have h1 : q - 1 ≤ Q := by
    refine h.le ?_
    have hb : (q - 1) * b ≤ 4294967296 * 4294967296 := by
      have hq0 : 0 ≤ q - 1 := by have := h.nonneg; omega
      have := Int.mul_le_mul (a := q - 1) (b := b) (c := 4294967296) (d := 4294967296) (by have := h.q1; omega) (by have := h.b1; omega) h.b0 (by decide)
      exact this
    have ha : (q - 1) * a = q * a - a := by rw [Int.sub_mul, Int.one_mul]
    rw [Inv.prod, ha]
    have he := h.e
    have := h.d0
    generalize q * a = p at *
    generalize (q - 1) * b = t at *
    omega
  omega
theorem wr (n : Int) (h0 : 0 ≤ n) (h1 : n < 18446744073709551616) : IntKind.u64.wrap n = n := by rw [IntKind.wrap_u64]; omega
theorem Inv.small {u a b d Q q r : Int} (h : Inv u a b d Q q r) (ht : q < 4294967296) : IntKind.u64.wrap (q * b) = q * b := by
  have hq0 : 0 ≤ q := by have := h.nonneg; have := h.qQ; omega
  have h2 := Int.mul_le_mul (a := q) (b := b) (c := 4294967295) (d := 4294967295) (by omega) (by have := h.b1; omega) h.b0 (by decide)
  exact wr _ (Int.mul_nonneg hq0 h.b0) (by omega)
theorem inv_step {u a b d Q q r : Int} (h : Inv u a b d Q q r) :
    (∃ q' r' : Int, IntKind.u64.wrap (q - 1) = q' ∧ IntKind.u64.wrap (r + a) = r' ∧ q' < q ∧ 0 ≤ q' ∧ decide (4294967296 ≤ q) = true ∧ decide (4294967296 ≤ r') = false ∧ Inv u a b d Q q' r') ∨
    (∃ q' r' x y z : Int, IntKind.u64.wrap (q - 1) = q' ∧ IntKind.u64.wrap (r + a) = r' ∧ q' < q ∧ 0 ≤ q' ∧ decide (4294967296 ≤ q) = false ∧ IntKind.u64.wrap (q * b) = x ∧ IntKind.u64.wrap (4294967296 * r) = y ∧ IntKind.u64.wrap (y + d) = z ∧ decide (z < x) = true ∧ decide (4294967296 ≤ r') = false ∧ Inv u a b d Q q' r') ∨
    (∃ r' : Int, IntKind.u64.wrap (q - 1) = Q ∧ IntKind.u64.wrap (r + a) = r' ∧ decide (4294967296 ≤ q) = true ∧ decide (4294967296 ≤ r') = true) ∨
    (∃ r' x y z : Int, IntKind.u64.wrap (q - 1) = Q ∧ IntKind.u64.wrap (r + a) = r' ∧ decide (4294967296 ≤ q) = false ∧ IntKind.u64.wrap (q * b) = x ∧ IntKind.u64.wrap (4294967296 * r) = y ∧ IntKind.u64.wrap (y + d) = z ∧ decide (z < x) = true ∧ decide (4294967296 ≤ r') = true) ∨
    (∃ x y z : Int, q = Q ∧ decide (4294967296 ≤ q) = false ∧ IntKind.u64.wrap (q * b) = x ∧ IntKind.u64.wrap (4294967296 * r) = y ∧ IntKind.u64.wrap (y + d) = z ∧ decide (z < x) = false) := by
  have hn := h.nonneg
  have hqQ := h.qQ
  have hq1 := h.q1
  have hr0 := h.r0
  have hr1 := h.r1
  have ha0 := h.a0
  have ha1 := h.a1
  have hd0 := h.d0
  have hd1 := h.d1
  have w2 : IntKind.u64.wrap (r + a) = r + a := wr _ (by omega) (by omega)
  have w4 : IntKind.u64.wrap (4294967296 * r) = 4294967296 * r := wr _ (by omega) (by omega)
  have w5 : IntKind.u64.wrap (4294967296 * r + d) = 4294967296 * r + d := wr _ (by omega) (by omega)
  by_cases t1 : 4294967296 ≤ q
  · have hgt := h.gt (.inl t1)
    have w1 : IntKind.u64.wrap (q - 1) = q - 1 := wr _ (by omega) (by omega)
    by_cases t2 : 4294967296 ≤ r + a
    · exact .inr (.inr (.inl ⟨r + a, w1.trans (h.stop hgt t2), w2, decide_eq_true t1, decide_eq_true t2⟩))
    · exact .inl ⟨q - 1, r + a, w1, w2, by omega, by omega, decide_eq_true t1, decide_eq_false t2, h.next hgt (by omega)⟩
  · have w3 := h.small (by omega)
    by_cases t3 : 4294967296 * r + d < q * b
    · have hgt := h.gt (.inr t3)
      have w1 : IntKind.u64.wrap (q - 1) = q - 1 := wr _ (by omega) (by omega)
      by_cases t2 : 4294967296 ≤ r + a
      · exact .inr (.inr (.inr (.inl ⟨r + a, _, _, _, w1.trans (h.stop hgt t2), w2, decide_eq_false t1, w3, w4, w5, decide_eq_true t3, decide_eq_true t2⟩)))
      · exact .inr (.inl ⟨q - 1, r + a, _, _, _, w1, w2, by omega, by omega, decide_eq_false t1, w3, w4, w5, decide_eq_true t3, decide_eq_false t2, h.next hgt (by omega)⟩)
    · exact .inr (.inr (.inr (.inr ⟨_, _, _, h.done (by omega), decide_eq_false t1, w3, w4, w5, decide_eq_false t3⟩)))
/-- The first guess: u / a. -/
theorem inv_start {u a b d : Int} (a0 : 2147483648 ≤ a) (a1 : a < 4294967296) (b0 : 0 ≤ b) (b1 : b < 4294967296) (d0 : 0 ≤ d) (d1 : d < 4294967296) (u0 : 0 ≤ u) (u1 : u < a * 4294967296 + b) :
    Inv u a b d ((u * 4294967296 + d) / (a * 4294967296 + b)) (u / a) (u - u / a * a) := by
  have hY : 0 < a * 4294967296 + b := by omega
  have e1 := Int.emod_add_mul_ediv (u * 4294967296 + d) (a * 4294967296 + b)
  have e2 := Int.emod_nonneg (u * 4294967296 + d) (b := a * 4294967296 + b) (by omega)
  have e3 := Int.emod_lt_of_pos (u * 4294967296 + d) hY
  have g1 := Int.emod_add_mul_ediv u a
  have g2 := Int.emod_nonneg u (b := a) (by omega)
  have g3 := Int.emod_lt_of_pos u (b := a) (by omega)
  have hc1 : u / a * a = a * (u / a) := Int.mul_comm _ _
  have hQ0 : (u * 4294967296 + d) / (a * 4294967296 + b) * (a * 4294967296 + b) ≤ u * 4294967296 + d := by
    rw [Int.mul_comm]; omega
  have hQ1 : u * 4294967296 + d < ((u * 4294967296 + d) / (a * 4294967296 + b) + 1) * (a * 4294967296 + b) := by
    rw [Int.add_mul, Int.one_mul, Int.mul_comm ((u * 4294967296 + d) / (a * 4294967296 + b))]; omega
  refine ⟨a0, a1, b0, b1, d0, d1, u0, u1, hQ0, hQ1, ?_, ?_, by omega, by omega, rfl⟩
  · refine (Int.le_ediv_iff_mul_le (by omega)).2 ?_
    rw [Inv.prod] at hQ0
    have hQn : 0 ≤ (u * 4294967296 + d) / (a * 4294967296 + b) := Int.ediv_nonneg (by omega) (by omega)
    have hb : 0 ≤ (u * 4294967296 + d) / (a * 4294967296 + b) * b := Int.mul_nonneg hQn b0
    generalize (u * 4294967296 + d) / (a * 4294967296 + b) * b = t at *
    generalize (u * 4294967296 + d) / (a * 4294967296 + b) * a = p at *
    omega
  · refine Int.lt_add_one_iff.1 ((Int.ediv_lt_iff_lt_mul (by omega)).2 ?_)
    omega
end Go.Proofs.Ytmgcmknobnonhaa.Num
namespace Go.Proofs.Ytmgcmknobnonhaa.Num
/-- The shift: y * 2^s has 64 bits. -/
theorem norm_shift (y s : Int) (h0 : 0 < y) (h1 : y < 18446744073709551616) (hs : s = 64 - (Lib.bitLen y.toNat : Int)) :
    0 ≤ s ∧ s ≤ 63 ∧ 9223372036854775808 ≤ y * 2 ^ s.toNat ∧ y * 2 ^ s.toNat < 18446744073709551616 := by
  obtain ⟨n, rfl⟩ := Int.eq_ofNat_of_zero_le (Int.le_of_lt h0)
  simp only [Int.toNat_natCast] at hs
  obtain ⟨b1, b2, b3⟩ := Lib.bitLenAux_bounds 64 n (by omega) (by omega)
  have b4 : Lib.bitLen n ≤ 64 := Lib.bitLen_le n 64 (Nat.le_refl _) (by omega)
  have hb : Lib.bitLen n = Lib.bitLenAux 64 n := rfl
  rw [← hb] at b1 b2 b3
  generalize Lib.bitLen n = m at *
  have hst : s.toNat = 64 - m := by omega
  have k1 : 2 ^ (m - 1) * 2 ^ (64 - m) = 9223372036854775808 := by rw [← Nat.pow_add]; rw [show m - 1 + (64 - m) = 63 from by omega]
  have k2 : 2 ^ m * 2 ^ (64 - m) = 18446744073709551616 := by rw [← Nat.pow_add]; rw [show m + (64 - m) = 64 from by omega]
  have hp : 0 < 2 ^ (64 - m) := Nat.two_pow_pos _
  have j1 := Nat.mul_le_mul_right (2 ^ (64 - m)) b2
  have j2 := Nat.mul_lt_mul_of_pos_right b3 hp
  rw [k1] at j1
  rw [k2] at j2
  have hc : ((n : Int) * 2 ^ s.toNat) = ((n * 2 ^ (64 - m) : Nat) : Int) := by rw [hst]; simp
  rw [hc]
  refine ⟨by omega, by omega, by omega, by omega⟩
theorem or_add (x t : Int) (k : Nat) (hx : 0 ≤ x) (ht : 0 ≤ t) (ht1 : t < 2 ^ k) (hb : x * 2 ^ k + t < 18446744073709551616) : bits .or .u64 (x * 2 ^ k) t = x * 2 ^ k + t := by
  obtain ⟨x, rfl⟩ := Int.eq_ofNat_of_zero_le hx
  obtain ⟨t, rfl⟩ := Int.eq_ofNat_of_zero_le ht
  have hc : ((x : Int) * 2 ^ k) = ((x * 2 ^ k : Nat) : Int) := by simp
  have hk : ((2 : Int) ^ k) = ((2 ^ k : Nat) : Int) := by simp
  rw [hc] at hb ⊢
  rw [hk] at ht1
  rw [bits_or_u64_nat _ _ (by omega) (by omega)]
  have := Nat.shiftLeft_add_eq_or_of_lt (b := t) (i := k) (by omega) x
  rw [Nat.shiftLeft_eq] at this
  rw [← this]
  simp
theorem and_low (x : Int) (hx : 0 ≤ x) (hb : x < 18446744073709551616) : bits .and .u64 x 4294967295 = x % 4294967296 := by
  obtain ⟨x, rfl⟩ := Int.eq_ofNat_of_zero_le hx
  have h := bits_and_u64_nat x 4294967295 (by omega) (by omega)
  have e : x &&& 4294967295 = x % 4294967296 := Nat.and_two_pow_sub_one_eq_mod x 32
  rw [e] at h
  rw [show ((4294967295 : Nat) : Int) = 4294967295 from rfl] at h
  rw [h]
  omega
/-- One step of the long division, with all that wraps in it. -/
theorem step_facts {Y u d : Int} (hY0 : 9223372036854775808 ≤ Y) (hY1 : Y < 18446744073709551616) (hu0 : 0 ≤ u) (hu : u < Y) (d0 : 0 ≤ d) (d1 : d < 4294967296) :
    ∃ q qa r Q m1 m2 m3 R : Int, IntKind.u64.wrap (u.tdiv (Y / 4294967296)) = q ∧ IntKind.u64.wrap (q * (Y / 4294967296)) = qa ∧ IntKind.u64.wrap (u - qa) = r ∧ Inv u (Y / 4294967296) (Y % 4294967296) d Q q r ∧
      IntKind.u64.wrap (u * 4294967296) = m1 ∧ IntKind.u64.wrap (m1 + d) = m2 ∧ IntKind.u64.wrap (Q * Y) = m3 ∧ IntKind.u64.wrap (m2 - m3) = R ∧
      u * 4294967296 + d = Q * Y + R ∧ 0 ≤ R ∧ R < Y ∧ 0 ≤ Q ∧ Q < 4294967296 := by
  have eY : Y / 4294967296 * 4294967296 + Y % 4294967296 = Y := by omega
  have a0 : 2147483648 ≤ Y / 4294967296 := by omega
  have a1 : Y / 4294967296 < 4294967296 := by omega
  have hI := inv_start (u := u) (d := d) a0 a1 (by omega : 0 ≤ Y % 4294967296) (by omega) d0 d1 hu0 (by rw [eY]; exact hu)
  have hn := hI.nonneg
  have hk := hI.ltK
  rw [eY] at hI hn hk
  generalize Y / 4294967296 = a at *
  generalize Y % 4294967296 = b at *
  have hq : 0 ≤ u / a := Int.ediv_nonneg hu0 (by omega)
  have hq1 := hI.q1
  have hr0 := hI.r0
  have w1 : IntKind.u64.wrap (u.tdiv a) = u / a := by rw [Int.tdiv_eq_ediv_of_nonneg hu0]; exact wr _ hq (by omega)
  have hqa : 0 ≤ u / a * a := Int.mul_nonneg hq (by omega)
  have w2 : IntKind.u64.wrap (u / a * a) = u / a * a := wr _ hqa (by omega)
  have w3 : IntKind.u64.wrap (u - u / a * a) = u - u / a * a := wr _ (by omega) (by omega)
  have e1 := Int.emod_add_mul_ediv (u * 4294967296 + d) Y
  have e2 := Int.emod_nonneg (u * 4294967296 + d) (b := Y) (by omega)
  have e3 := Int.emod_lt_of_pos (u * 4294967296 + d) (b := Y) (by omega)
  rw [Int.mul_comm Y] at e1
  generalize (u * 4294967296 + d) % Y = R at *
  generalize (u * 4294967296 + d) / Y = Q at *
  refine ⟨u / a, _, _, Q, _, _, _, R, w1, w2, w3, hI, rfl, rfl, rfl, ?_, by omega, e2, e3, hn, hk⟩
  simp only [IntKind.wrap_u64]
  generalize Q * Y = t at *
  omega
/-- All that the body computes, when the high word is not 0. -/
theorem div_facts (hi lo y s : Int) (h0 : 0 ≤ hi) (l0 : 0 ≤ lo) (l1 : lo < 18446744073709551616) (y1 : y < 18446744073709551616) (hy : hi < y) (hs : s = 64 - (Lib.bitLen y.toNat : Int)) :
    ∃ Y a b u v d1 d0 q0 qa r0 Q1 m1 m2 m3 R1 q2 q2a r2 Q2 n1 n2 n3 n4 n5 : Int,
      IntKind.u64.wrap (y * 2 ^ s.toNat) = Y ∧ Y / 4294967296 = a ∧ 0 < a ∧ bits .and .u64 Y 4294967295 = b ∧ bits .or .u64 (IntKind.u64.wrap (hi * 2 ^ s.toNat)) (lo / 2 ^ (64 - s).toNat) = u ∧
      IntKind.u64.wrap (lo * 2 ^ s.toNat) = v ∧ v / 4294967296 = d1 ∧ bits .and .u64 v 4294967295 = d0 ∧
      IntKind.u64.wrap (u.tdiv a) = q0 ∧ IntKind.u64.wrap (q0 * a) = qa ∧ IntKind.u64.wrap (u - qa) = r0 ∧ Inv u a b d1 Q1 q0 r0 ∧
      IntKind.u64.wrap (u * 4294967296) = m1 ∧ IntKind.u64.wrap (m1 + d1) = m2 ∧ IntKind.u64.wrap (Q1 * Y) = m3 ∧ IntKind.u64.wrap (m2 - m3) = R1 ∧
      IntKind.u64.wrap (R1.tdiv a) = q2 ∧ IntKind.u64.wrap (q2 * a) = q2a ∧ IntKind.u64.wrap (R1 - q2a) = r2 ∧ Inv R1 a b d0 Q2 q2 r2 ∧
      IntKind.u64.wrap (Q1 * 4294967296) = n1 ∧ IntKind.u64.wrap (n1 + Q2) = (hi * 18446744073709551616 + lo) / y ∧ IntKind.u64.wrap (R1 * 4294967296) = n2 ∧ IntKind.u64.wrap (n2 + d0) = n3 ∧ IntKind.u64.wrap (Q2 * Y) = n4 ∧ IntKind.u64.wrap (n3 - n4) = n5 ∧
      n5 / 2 ^ s.toNat = (hi * 18446744073709551616 + lo) % y := by
  obtain ⟨s0, s1, Y0, Y1⟩ := norm_shift y s (by omega) y1 hs
  clear hs
  have hPR : (2 : Int) ^ s.toNat * 2 ^ (64 - s).toNat = 18446744073709551616 := by
    rw [← Int.pow_add, show s.toNat + (64 - s).toNat = 64 from by omega]; rfl
  have hP : (0 : Int) < 2 ^ s.toNat := Int.pow_pos (by decide)
  have hR : (0 : Int) < 2 ^ (64 - s).toNat := Int.pow_pos (by decide)
  have horl : ∀ x t : Int, 0 ≤ x → 0 ≤ t → t < 2 ^ s.toNat → x * 2 ^ s.toNat + t < 18446744073709551616 → bits .or .u64 (x * 2 ^ s.toNat) t = x * 2 ^ s.toNat + t := fun x t => or_add x t _
  generalize (2 : Int) ^ s.toNat = P at *
  generalize (2 : Int) ^ (64 - s).toNat = R at *
  -- the low word's upper part
  have e1 := Int.emod_add_mul_ediv lo R
  have e2 := Int.emod_nonneg lo (b := R) (by omega)
  have e3 := Int.emod_lt_of_pos lo hR
  have t0 : 0 ≤ lo / R := Int.ediv_nonneg l0 (by omega)
  have t1 : lo / R < P := (Int.ediv_lt_iff_lt_mul hR).2 (by rw [hPR]; exact l1)
  generalize lo / R = t at *
  generalize lo % R = g at *
  have hgP : g * P < 18446744073709551616 := by
    have := Int.mul_lt_mul_of_pos_right e3 hP
    rw [Int.mul_comm R P, hPR] at this
    exact this
  have hgP0 : 0 ≤ g * P := Int.mul_nonneg e2 (by omega)
  have hloP : lo * P = t * 18446744073709551616 + g * P := by
    rw [← e1, Int.add_mul, Int.mul_right_comm, Int.mul_comm R P, hPR]; omega
  -- the high word
  have hhi : (hi + 1) * P ≤ y * P := Int.mul_le_mul_of_nonneg_right (by omega) (by omega)
  rw [Int.add_mul, Int.one_mul] at hhi
  have hhi0 : 0 ≤ hi * P := Int.mul_nonneg h0 (by omega)
  have wY : IntKind.u64.wrap (y * P) = y * P := wr _ (by omega) Y1
  have wh : IntKind.u64.wrap (hi * P) = hi * P := wr _ hhi0 (by omega)
  have wu := horl hi t h0 t0 t1 (by omega)
  have wv : IntKind.u64.wrap (lo * P) = g * P := by rw [IntKind.wrap_u64, hloP]; omega
  have wb := and_low (y * P) (by omega) Y1
  have wd := and_low (g * P) hgP0 hgP
  obtain ⟨q0, qa, r0, Q1, m1, m2, m3, R1, f1, f2, f3, I1, f4, f5, f6, f7, E1, R10, R11, Q10, Q11⟩ := step_facts (Y := y * P) (u := hi * P + t) (d := g * P / 4294967296) Y0 Y1 (by omega) (by omega) (by omega) (by omega)
  obtain ⟨q2, q2a, r2, Q2, n2, n3, n4, R2, k1, k2, k3, I2, k4, k5, k6, k7, E2, R20, R21, Q20, Q21⟩ := step_facts (Y := y * P) (u := R1) (d := g * P % 4294967296) Y0 Y1 R10 R11 (by omega) (by omega)
  have hy0 : 0 < y := by omega
  -- the whole: N * P = Q * (y * P) + R2
  have EN : (hi * 18446744073709551616 + lo) * P = ((Q1 * 4294967296 + Q2) * y) * P + R2 := by
    rw [Int.add_mul, hloP, Int.mul_assoc, Int.mul_comm 18446744073709551616 P, ← Int.mul_assoc]
    rw [Int.mul_assoc (Q1 * 4294967296 + Q2) y P, Int.add_mul, Int.mul_right_comm Q1]
    generalize hi * P = x1 at *
    generalize g * P = x2 at *
    generalize Q1 * (y * P) = x3 at *
    generalize Q2 * (y * P) = x4 at *
    omega
  have ED : R2 = ((hi * 18446744073709551616 + lo) - (Q1 * 4294967296 + Q2) * y) * P := by
    rw [Int.sub_mul]; omega
  have hlow : 0 ≤ (hi * 18446744073709551616 + lo) - (Q1 * 4294967296 + Q2) * y := by
    refine Int.lt_add_one_iff.1 (Int.lt_of_mul_lt_mul_right (a := P) ?_ (by omega))
    rw [Int.add_mul, ← ED]
    omega
  have hhigh : (hi * 18446744073709551616 + lo) - (Q1 * 4294967296 + Q2) * y < y := by
    refine Int.lt_of_mul_lt_mul_right (a := P) ?_ (by omega)
    rw [← ED]
    exact R21
  have hN : 0 ≤ hi * 18446744073709551616 + lo := by omega
  have hdm := (Int.ediv_emod_unique (a := hi * 18446744073709551616 + lo) (b := y) (r := (hi * 18446744073709551616 + lo) - (Q1 * 4294967296 + Q2) * y) (q := Q1 * 4294967296 + Q2) hy0).2 ⟨by rw [Int.mul_comm y]; omega, hlow, hhigh⟩
  refine ⟨y * P, y * P / 4294967296, _, _, g * P, _, _, q0, qa, r0, Q1, m1, m2, m3, R1, q2, q2a, r2, Q2, Q1 * 4294967296, n2, n3, n4, R2, wY, rfl, by omega, wb, by rw [wh]; exact wu, wv, rfl, wd, f1, f2, f3, I1, f4, f5, f6, f7, k1, k2, k3, I2, wr _ (by omega) (by omega), ?_, k4, k5, k6, k7, ?_⟩
  · rw [hdm.1]; exact wr _ (by omega) (by omega)
  · rw [hdm.2, ED]; exact Int.mul_ediv_cancel _ (by omega)
end Go.Proofs.Ytmgcmknobnonhaa.Num
