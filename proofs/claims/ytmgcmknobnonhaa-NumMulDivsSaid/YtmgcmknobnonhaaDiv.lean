/- The contract of math/bits.Div64 at this program: the quotient and the remainder of the two-word number hi * 2^64 + lo by y. Conditions: three uint64s, hi < y. -/
import Derived.Test.YtmgcmknobnonhaaNum
import Derived.Test.YtmgcmknobnonhaaDivLaw
import Derived.BigQuiet
import Derived.Deep.QuietTactic
namespace Go.Proofs.Ytmgcmknobnonhaa.Num
open Go.RowKit Go.Proofs.YtmgcmknobnonhaaW.PrintWords
theorem lz (x : Int) (s : Int) (hx : Word x) (hs : s = 64 - (Lib.bitLen x.toNat : Int)) (w : World) :
    Calls Try.prog 33 #[.int .u64 x] w fun e w' => e = .returned (.int .i64 s) ∧ w = w' := by
  refine (Go.Proofs.Try.bits_LeadingZeros64 x w hx.1 (by have := hx.2; omega)).mono ?_
  rintro e w' ⟨rfl, rfl⟩
  exact ⟨by rw [hs], rfl⟩
set_option maxHeartbeats 1000000 in
theorem div64_big (hi lo y s : Int) (w : World) (h3 : Word y) (hs0 : 0 ≤ s) (hs1 : s ≤ 63) (hs : RowKit.Hid (s = 64 - (Lib.bitLen y.toNat : Int))) (c1 : (y == 0) = false) (c2 : ¬ y ≤ hi) (c3 : (hi == 0) = false)
    (Y a b u v d1 d0 q0 qa r0 Q1 m1 m2 m3 R1 q2 q2a r2 Q2 n1 Qf n2 n3 n4 n5 Rf : Int) (e1 : IntKind.u64.wrap (y * 2 ^ s.toNat) = Y) (e2 : Y / 4294967296 = a) (c4 : 0 < a)
    (e3 : bits .and .u64 Y 4294967295 = b) (e4 : bits .or .u64 (IntKind.u64.wrap (hi * 2 ^ s.toNat)) (lo / 2 ^ (64 - s).toNat) = u)
    (e5 : IntKind.u64.wrap (lo * 2 ^ s.toNat) = v) (e6 : v / 4294967296 = d1) (e7 : bits .and .u64 v 4294967295 = d0)
    (e8 : IntKind.u64.wrap (u.tdiv a) = q0) (e9 : IntKind.u64.wrap (q0 * a) = qa) (e10 : IntKind.u64.wrap (u - qa) = r0) (I1 : Inv u a b d1 Q1 q0 r0)
    (f1 : IntKind.u64.wrap (u * 4294967296) = m1) (f2 : IntKind.u64.wrap (m1 + d1) = m2) (f3 : IntKind.u64.wrap (Q1 * Y) = m3) (f4 : IntKind.u64.wrap (m2 - m3) = R1)
    (g1 : IntKind.u64.wrap (R1.tdiv a) = q2) (g2 : IntKind.u64.wrap (q2 * a) = q2a) (g3 : IntKind.u64.wrap (R1 - q2a) = r2) (I2 : Inv R1 a b d0 Q2 q2 r2)
    (j1 : IntKind.u64.wrap (Q1 * 4294967296) = n1) (j2 : IntKind.u64.wrap (n1 + Q2) = Qf) (j3 : IntKind.u64.wrap (R1 * 4294967296) = n2) (j4 : IntKind.u64.wrap (n2 + d0) = n3) (j5 : IntKind.u64.wrap (Q2 * Y) = n4) (j6 : IntKind.u64.wrap (n3 - n4) = n5) (j7 : n5 / 2 ^ s.toNat = Rf) :
    Calls Try.prog 27 #[.int .u64 hi, .int .u64 lo, .int .u64 y] w fun e w' => e = .returned (.tuple #[.int .u64 Qf, .int .u64 Rf]) ∧ w = w' := by
  go_enter Try.func27, Try.ntmps27
  go_wp2_with fail
  refine (lz y s h3 hs.out _).mono ?_
  rintro e w' ⟨rfl, rfl⟩
  go_wp2
  go_loop [15, 16] (fun x y => ∃ q r : Int, x = .int .u64 q ∧ y = .int .u64 r ∧ Inv u a b d1 Q1 q r) (fun x _ => (intOf x).toNat)
  case atStart => exact ⟨q0, r0, rfl, rfl, I1⟩
  case round =>
    obtain ⟨q, r, rfl, rfl, hI⟩ := hrel
    rcases inv_step hI with ⟨q', r', k1, k2, k3, k4, k5, k6, hI'⟩ | ⟨q', r', x, y', z, k1, k2, k3, k4, k5, k7, k8, k9, k10, k6, hI'⟩ | ⟨r', k1, k2, k5, k6⟩ | ⟨r', x, y', z, k1, k2, k5, k7, k8, k9, k10, k6⟩ | ⟨x, y', z, rfl, k5, k7, k8, k9, k10⟩
    · go_wp2
      go_round
      case rel => exact ⟨q', r', rfl, rfl, hI'⟩
      case measure => simp [intOf]; omega
    · go_wp2
      go_round
      case rel => exact ⟨q', r', rfl, rfl, hI'⟩
      case measure => simp [intOf]; omega
    · go_wp2
      clear k1 k2 k5 k6 hI
      go_loop [18, 16] (fun x y => ∃ q r : Int, x = .int .u64 q ∧ y = .int .u64 r ∧ Inv R1 a b d0 Q2 q r) (fun x _ => (intOf x).toNat)
      case atStart => exact ⟨q2, r2, rfl, rfl, I2⟩
      case round =>
        obtain ⟨q', r', rfl, rfl, hI2⟩ := hrel
        rcases inv_step hI2 with ⟨q'', r'', k1, k2, k3, k4, k5, k6, hI'⟩ | ⟨q'', r'', x, y', z, k1, k2, k3, k4, k5, k7, k8, k9, k10, k6, hI'⟩ | ⟨r'', k1, k2, k5, k6⟩ | ⟨r'', x, y', z, k1, k2, k5, k7, k8, k9, k10, k6⟩ | ⟨x, y', z, k11, k5, k7, k8, k9, k10⟩
        · go_wp2
          go_round
          case rel => exact ⟨q'', r'', rfl, rfl, hI'⟩
          case measure => simp [intOf]; omega
        · go_wp2
          go_round
          case rel => exact ⟨q'', r'', rfl, rfl, hI'⟩
          case measure => simp [intOf]; omega
        · go_wp2
          go_ret2
          exact ⟨rfl, rfl⟩
        · go_wp2
          go_ret2
          exact ⟨rfl, rfl⟩
        · subst k11
          go_wp2
          go_ret2
          exact ⟨rfl, rfl⟩
    · go_wp2
      clear k1 k2 k5 k6 k7 k8 k9 k10 hI
      go_loop [18, 16] (fun x y => ∃ q r : Int, x = .int .u64 q ∧ y = .int .u64 r ∧ Inv R1 a b d0 Q2 q r) (fun x _ => (intOf x).toNat)
      case atStart => exact ⟨q2, r2, rfl, rfl, I2⟩
      case round =>
        obtain ⟨q', r', rfl, rfl, hI2⟩ := hrel
        rcases inv_step hI2 with ⟨q'', r'', k1, k2, k3, k4, k5, k6, hI'⟩ | ⟨q'', r'', x, y', z, k1, k2, k3, k4, k5, k7, k8, k9, k10, k6, hI'⟩ | ⟨r'', k1, k2, k5, k6⟩ | ⟨r'', x, y', z, k1, k2, k5, k7, k8, k9, k10, k6⟩ | ⟨x, y', z, k11, k5, k7, k8, k9, k10⟩
        · go_wp2
          go_round
          case rel => exact ⟨q'', r'', rfl, rfl, hI'⟩
          case measure => simp [intOf]; omega
        · go_wp2
          go_round
          case rel => exact ⟨q'', r'', rfl, rfl, hI'⟩
          case measure => simp [intOf]; omega
        · go_wp2
          go_ret2
          exact ⟨rfl, rfl⟩
        · go_wp2
          go_ret2
          exact ⟨rfl, rfl⟩
        · subst k11
          go_wp2
          go_ret2
          exact ⟨rfl, rfl⟩
    · go_wp2
      clear k5 k7 k8 k9 k10 hI
      go_loop [18, 16] (fun x y => ∃ q r : Int, x = .int .u64 q ∧ y = .int .u64 r ∧ Inv R1 a b d0 Q2 q r) (fun x _ => (intOf x).toNat)
      case atStart => exact ⟨q2, r2, rfl, rfl, I2⟩
      case round =>
        obtain ⟨q', r', rfl, rfl, hI2⟩ := hrel
        rcases inv_step hI2 with ⟨q'', r'', k1, k2, k3, k4, k5, k6, hI'⟩ | ⟨q'', r'', x, y', z, k1, k2, k3, k4, k5, k7, k8, k9, k10, k6, hI'⟩ | ⟨r'', k1, k2, k5, k6⟩ | ⟨r'', x, y', z, k1, k2, k5, k7, k8, k9, k10, k6⟩ | ⟨x, y', z, k11, k5, k7, k8, k9, k10⟩
        · go_wp2
          go_round
          case rel => exact ⟨q'', r'', rfl, rfl, hI'⟩
          case measure => simp [intOf]; omega
        · go_wp2
          go_round
          case rel => exact ⟨q'', r'', rfl, rfl, hI'⟩
          case measure => simp [intOf]; omega
        · go_wp2
          go_ret2
          exact ⟨rfl, rfl⟩
        · go_wp2
          go_ret2
          exact ⟨rfl, rfl⟩
        · subst k11
          go_wp2
          go_ret2
          exact ⟨rfl, rfl⟩
set_option maxHeartbeats 400000 in
theorem div64_small (lo y : Int) (w : World) (l0 : 0 ≤ lo) (y0 : 0 < y) (q : Int) (c1 : (y == 0) = false) (e1 : IntKind.u64.wrap (lo.tdiv y) = q) :
    Calls Try.prog 27 #[.int .u64 0, .int .u64 lo, .int .u64 y] w fun e w' => e = .returned (.tuple #[.int .u64 q, .int .u64 (lo % y)]) ∧ ∃ n, w' = w.drewN n := by
  go_enter Try.func27, Try.ntmps27
  go_wp2
  go_quiet (fail)
  go_wp2
  go_ret2
  exact ⟨rfl, _, rfl⟩
theorem div64_quiet (hi lo y : Int) (w : World) (h1 : Word hi) (h2 : Word lo) (h3 : Word y) (hy : hi < y) :
    Calls Try.prog 27 #[.int .u64 hi, .int .u64 lo, .int .u64 y] w fun e w' => e = .returned (.tuple #[.int .u64 ((hi * 18446744073709551616 + lo) / y), .int .u64 ((hi * 18446744073709551616 + lo) % y)]) ∧ ∃ n, w' = w.drewN n := by
  have hy0 : 0 < y := by have := h1.1; omega
  have c1 : (y == 0) = false := beq_eq_false_iff_ne.2 (by omega)
  by_cases h0 : hi = 0
  · subst h0
    rw [Int.zero_mul, Int.zero_add]
    refine div64_small lo y w h2.1 hy0 _ c1 ?_
    rw [Int.tdiv_eq_ediv_of_nonneg h2.1]
    have k1 : 0 ≤ lo / y := Int.ediv_nonneg h2.1 (by omega)
    have k2 : lo / y ≤ lo := Int.ediv_le_self _ h2.1
    exact wr _ k1 (by have := h2.2; omega)
  · obtain ⟨s, hs⟩ : ∃ s : Int, s = 64 - (Lib.bitLen y.toNat : Int) := ⟨_, rfl⟩
    obtain ⟨s0, s1, _, _⟩ := norm_shift y s hy0 h3.2 hs
    obtain ⟨Y, a, b, u, v, d1, d0, q0, qa, r0, Q1, m1, m2, m3, R1, q2, q2a, r2, Q2, n1, n2, n3, n4, n5, e1, e2, e3, e4, e5, e6, e7, e8, e9, e10, e11, I1, f1, f2, f3, f4, g1, g2, g3, I2, j1, j2, j3, j4, j5, j6, j7⟩ := div_facts hi lo y s h1.1 h2.1 h2.2 h3.2 hy hs
    refine (div64_big hi lo y s w h3 s0 s1 hs c1 (by omega) (beq_eq_false_iff_ne.2 h0) Y a b u v d1 d0 q0 qa r0 Q1 m1 m2 m3 R1 q2 q2a r2 Q2 n1 _ n2 n3 n4 n5 _ e1 e2 e3 e4 e5 e6 e7 e8 e9 e10 e11 I1 f1 f2 f3 f4 g1 g2 g3 I2 j1 j2 j3 j4 j5 j6 j7).mono ?_
    rintro e w' ⟨rfl, rfl⟩
    exact ⟨rfl, 0, rfl⟩
theorem div64_any (hi lo y : Int) (w : World) (h1 : Word hi) (h2 : Word lo) (h3 : Word y) (hy : hi < y) :
    Calls Try.prog 27 #[.int .u64 hi, .int .u64 lo, .int .u64 y] w fun e w' => e = .returned (.tuple #[.int .u64 ((hi * 18446744073709551616 + lo) / y), .int .u64 ((hi * 18446744073709551616 + lo) % y)]) ∧ Below w.heap.size w w' := by
  refine (div64_quiet hi lo y w h1 h2 h3 hy).mono ?_
  rintro e w' ⟨rfl, n, rfl⟩
  exact ⟨rfl, pw_below_drewN (Below.refl _ _) _⟩
end Go.Proofs.Ytmgcmknobnonhaa.Num
