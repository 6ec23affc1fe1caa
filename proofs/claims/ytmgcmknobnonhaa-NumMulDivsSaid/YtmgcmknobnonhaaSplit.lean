/- The contract of (spyref1.Z).Split at this program: the quotient, rounded down, and the remainder. Conditions: the divisor is positive and below 10^20, the number between -10^60 and 10^60. -/
import Derived.Test.YtmgcmknobnonhaaSW
namespace Go.Proofs.Ytmgcmknobnonhaa.Zed
open Go.RowKit Go.Proofs.YtmgcmknobnonhaaW.PrintWords Go.Proofs.YtmgcmknobnonhaaW.PrintLast Go.Proofs.YtmgcmknobnonhaaW.PrintMore Go.Proofs.Ytmgcmknobnonhaa.PNumMulDivs Go.Proofs.Ytmgcmknobnonhaa.Dig
set_option linter.unusedVariables false
set_option linter.unusedSimpArgs false
def T7 : Bool × List (List Nat × List Nat) := (true, [([], []), ([0], [0]), ([], []), ([1, 2], [1, 2]), ([3], [3]), ([4], [4]), ([], []), ([6], [6]), ([5, 7], [5, 7]), ([8, 8], [8]), ([9, 9, 0, 1, 2, 3, 4, 5, 6, 7, 8, 9], [9])])
def B7 : List Nat := [0, 1, 0, 7, 15, 31, 0, 64, 255, 511, 1023]
theorem tab7 : rtab .any (opsOf Try.f21 7) = T7 := by kernel_rfl
theorem bits7 : waitsOk T7.2 B7 = true := by kernel_rfl
def T11 : Bool × List (List Nat × List Nat) := (true, [([], []), ([], []), ([1], [1]), ([2], [2]), ([0, 3], [0, 3]), ([], []), ([4, 5, 4], [4, 5]), ([6], [6])])
def B11 : List Nat := [0, 0, 2, 6, 15, 0, 63, 127]
theorem tab11 : rtab .any (opsOf Try.f21 11) = T11 := by kernel_rfl
theorem bits11 : waitsOk T11.2 B11 = true := by kernel_rfl
def T15 : Bool × List (List Nat × List Nat) := (true, [([], []), ([], []), ([], []), ([2], [2]), ([3], [3]), ([1, 4, 4], [1, 4]), ([0, 5, 5], [0, 5]), ([6, 6, 0, 1, 2, 3, 4, 5, 6], [6])])
def B15 : List Nat := [0, 0, 0, 4, 12, 30, 63, 127]
theorem tab15 : rtab .any (opsOf Try.f21 15) = T15 := by kernel_rfl
theorem bits15 : waitsOk T15.2 B15 = true := by kernel_rfl
def T18 : Bool × List (List Nat × List Nat) := (true, [([], []), ([], []), ([0, 1, 1], [0, 1]), ([], []), ([], []), ([3, 4, 2], [3, 4]), ([2, 5, 0, 1, 2], [2]), ([5, 6, 0, 1, 2, 3, 4, 5, 6], [5])])
def B18 : List Nat := [0, 0, 3, 0, 0, 31, 63, 127]
theorem tab18 : rtab .any (opsOf Try.f21 18) = T18 := by kernel_rfl
theorem bits18 : waitsOk T18.2 B18 = true := by kernel_rfl
theorem small_rest {la ql : List Int} {m : Int} {j : Nat} {Q R : Int} (h : OInv la ql m j Q R) (hm : m < 100000000000000000000) : Sm R := by have := h.R0; have := h.R1; unfold Sm; omega
theorem rd_dig {la : List Int} (h : Dig la) (z : Int) : 0 ≤ rd la z ∧ rd la z < 1000000 := h.at z.toNat
/-- The next digit, put ahead of the rest. -/
theorem y_facts {la rl y : List Int} {na : Bool} {x R : Int} {z : Int} (hy : y = [rd la z] ++ rl) (hz : IsZ na la x) (hR : IsZ false rl R) (hs : Sm R) (h0 : 0 ≤ R) (z' : Int) :
    Dig y ∧ y.length < 1000 ∧ sv false y = rd la z + 1000000 * R ∧ 0 ≤ rd la z + 1000000 * R := by
  have hd := rd_dig hz.dig z
  have hv := hR.val_eq
  have hl := hR.len hs
  subst hy
  refine ⟨Dig.mk hd.1 hd.2 hR.dig, by simp; omega, ?_, by omega⟩
  unfold sv
  rw [if_neg (by decide)]
  simp only [List.cons_append, List.nil_append, val]
  omega
theorem r1_facts {la ql : List Int} {na : Bool} {x m z R R1 : Int} {i : Nat} {Q : Int} (h : R1 = rd la z + 1000000 * R) (hO : OInv la ql m (i + 1) Q R) (hz : IsZ na la x) (hzi : z = (i : Int)) (hm : m < 100000000000000000000) :
    0 ≤ R1 ∧ R1 < m * 1000000 ∧ Sm R1 := by
  have hd := rd_dig hz.dig z
  have h0 := hO.R0
  have h1 := hO.R1
  unfold Sm
  omega
/-- The binary search's state. -/
structure BInv (m R1 lo hi : Int) : Prop where
  l0 : 0 ≤ lo
  lh : lo < hi
  h1 : hi ≤ 1000000
  a : m * lo ≤ R1
  b : R1 < m * hi
theorem b_start {m R1 : Int} (h0 : 0 ≤ R1) (h1 : R1 < m * 1000000) : BInv m R1 0 1000000 := ⟨by decide, by decide, by decide, by rw [Int.mul_zero]; exact h0, h1⟩
theorem m_small {m : Int} (h0 : 0 < m) (h1 : m < 100000000000000000000) : Sm m := by unfold Sm; omega
theorem d_small {d : Int} (h0 : 0 ≤ d) (h1 : d < 1000000) : Sm d := by unfold Sm; omega
theorem p_small {m d : Int} (h0 : 0 < m) (h1 : m < 100000000000000000000) (d0 : 0 ≤ d) (d1 : d < 1000000) : Sm (m * d) := by
  have h2 := Int.mul_le_mul (a := m) (b := d) (c := 100000000000000000000) (d := 1000000) (by omega) (by omega) d0 (by decide)
  have h3 := Int.mul_nonneg (a := m) (b := d) (by omega) d0
  unfold Sm
  omega
theorem b_lo {m R1 lo hi mid : Int} (h : BInv m R1 lo hi) (h0 : lo < mid) (h1 : mid < hi) (hc : cmp (m * mid) R1 ≤ 0) : BInv m R1 mid hi := by
  refine ⟨by have := h.l0; omega, h1, h.h1, ?_, h.b⟩
  rcases Int.lt_trichotomy (m * mid) R1 with t | t | t
  · omega
  · omega
  · rw [cmp_gt t] at hc; omega
theorem b_hi {m R1 lo hi mid : Int} (h : BInv m R1 lo hi) (h0 : lo < mid) (h1 : mid < hi) (hc : ¬ cmp (m * mid) R1 ≤ 0) : BInv m R1 lo mid := by
  refine ⟨h.l0, h0, by have := h.h1; omega, h.a, ?_⟩
  rcases Int.lt_trichotomy (m * mid) R1 with t | t | t
  · rw [cmp_lt t] at hc; omega
  · rw [cmp_eq t] at hc; omega
  · omega
theorem b_rest {m R1 lo hi : Int} (h : BInv m R1 lo hi) : 0 ≤ R1 - m * lo := by have := h.a; omega
theorem lo_facts {l5 : List Int} {lo : Int} (hl : l5 = [lo]) (h0 : 0 ≤ lo) (h1 : lo < 1000000) : Dig l5 ∧ l5.length < 1000 ∧ sv false l5 = lo := by
  subst hl
  exact ⟨Dig.mk h0 h1 Dig.nil, by simp, by unfold sv; simp [val]⟩
theorem o_next {la ql : List Int} {m z R R1 lo hi : Int} {i : Nat} {Q : Int} (hO : OInv la ql m (i + 1) Q R) (hR1 : R1 = rd la z + 1000000 * R) (hz : z = (i : Int)) (hB : BInv m R1 lo hi) (t : hi - lo ≤ 1) :
    OInv la (ql.set z.toNat lo) m i (Q * 1000000 + lo) (R1 - m * lo) := by
  obtain ⟨l0, lh, h1, ha, hb⟩ := hB
  obtain rfl : hi = lo + 1 := by omega
  rw [Int.mul_add, Int.mul_one] at hb
  have e : rd la z = la.getD i 0 := by rw [hz]; exact rd_nat la i
  rw [e] at hR1
  rw [hz, Int.toNat_natCast, hR1]
  exact hO.step l0 (by omega) (by omega) (by omega)
/-- What Split promises: the quotient, rounded down, and the remainder. -/
def SplitPost (w : World) (x m : Int) (e : Ending) (w' : World) : Prop :=
  ∃ (n n' : Bool) (l l' : List Int) (v v' : Value), e = .returned (.tuple #[.agg #[.bool n, v], .agg #[.bool n', v']]) ∧ IsZ n l (x / m) ∧ IsZ n' l' (x % m) ∧ SV w' (fun k => w.heap.size ≤ k) v l ∧ SV w' (fun k => w.heap.size ≤ k) v' l' ∧ Below w.heap.size w w'
theorem trim_n (neg : Bool) (P : Nat → Prop) (A : Option Addr) (n c : Nat) (l : List Int) (z : Int) (w : World) (hv : SV w P (.slice A n c) l) (hd : Dig l) (hl : l.length < 1000) (hz : sv neg l = z) :
    Calls Try.prog 11 #[.bool neg, .slice A n c] w (GivesZ w (fun k => P k ∨ w.heap.size ≤ k) z) := by
  obtain ⟨rfl, _, _⟩ := sv_read hv
  exact trim_z neg P A c l z w hv hd hl hz
theorem gz_ne {a s s2 gz : Nat} (h : a < s) (h2 : s ≤ s2) (hg : gz = s2) : a ≠ gz := by omega
theorem fin_ne1 {g : Fin} {w : World} (h : g.Ok w) : g.b ≠ g.z := by obtain ⟨_, _, _, _, _, _⟩ := h; omega
theorem fin_ne2 {g : Fin} {w : World} (h : g.Ok w) : g.b ≠ g.r := by obtain ⟨_, _, _, _, _, _⟩ := h; omega
theorem fin_ne3 {g : Fin} {w : World} (h : g.Ok w) : g.z ≠ g.x := by obtain ⟨_, _, _, _, _, _⟩ := h; omega
theorem fin_ne4 {g : Fin} {w : World} (h : g.Ok w) : g.r ≠ g.x := by obtain ⟨_, _, _, _, _, _⟩ := h; omega
/-- The numbers at the end. -/
theorem fin_facts {la ql : List Int} {na : Bool} {x m Q R : Int} (hO : OInv la ql m 0 Q R) (hz : IsZ na la x) :
    (na = false → sv na ql = x / m ∧ R = x % m) ∧ (na = true → R = 0 → sv na ql = x / m ∧ R = x % m) ∧
    (na = true → ¬ R = 0 → Sm x → 0 < m → sv na ql - 1 = x / m ∧ m - R = x % m ∧ Sm (sv na ql)) := by
  obtain ⟨h1, h2⟩ := hO.done
  have h3 := hz.val_eq
  have h4 := hz.neg
  have r0 := hO.R0
  have r1 := hO.R1
  have e := Int.emod_add_mul_ediv (val la) m
  rw [← h2, ← h1] at e
  have hq : 0 ≤ val ql := val_nonneg hO.dig
  refine ⟨fun h => ?_, fun h hR => ?_, fun h hR hs hm => ?_⟩
  · subst h
    have hx : x = val la := by have := of_decide_eq_false h4.symm; omega
    unfold sv
    rw [if_neg (by decide), hx]
    exact ⟨h1, h2⟩
  · subst h
    have hx : x = -(val la) := by have := of_decide_eq_true h4.symm; omega
    have hu := (Int.ediv_emod_unique (a := x) (b := m) (r := 0) (q := -(val ql)) (by omega)).2 ⟨by rw [Int.mul_neg]; omega, by omega, by omega⟩
    unfold sv
    rw [if_pos rfl]
    exact ⟨hu.1.symm, by rw [hu.2]; exact hR⟩
  · subst h
    have hx : x = -(val la) := by have := of_decide_eq_true h4.symm; omega
    have hu := (Int.ediv_emod_unique (a := x) (b := m) (r := m - R) (q := -(val ql) - 1) (by omega)).2 ⟨by rw [Int.mul_sub, Int.mul_neg, Int.mul_one]; omega, by omega, by omega⟩
    unfold sv
    rw [if_pos rfl]
    refine ⟨hu.1.symm, hu.2.symm, ?_⟩
    have hle : val ql * 1 ≤ val ql * m := Int.mul_le_mul_of_nonneg_left (by omega) hq
    rw [Int.mul_comm m] at e
    unfold Sm at hs ⊢
    omega
theorem at_ne {w W1 W2 W3 W4 W5 : World} {gA g6 : Nat} (hgA : gA = w.heap.size) (L1 : Below w.heap.size w W1) (L2 : Below W1.heap.size W1 W2) (L3 : Below W2.heap.size W2 W3) (L4 : Below W3.heap.size W3 W4) (L5 : Below W4.heap.size W4 W5) (hg6 : g6 = W5.heap.size) (h : gA < W1.heap.size) : gA ≠ g6 := by
  have := L2.size
  have := L3.size
  have := L4.size
  have := L5.size
  omega
set_option maxHeartbeats 4000000 in
set_option maxRecDepth 100000 in
theorem split_z (na : Bool) (la lm : List Int) (x m : Int) (A0 A1 : Option Addr) (ca cm : Nat) (w : World) (hz : IsZ na la x) (hm : IsZ false lm m) (m0 : RowKit.Hid (0 < m)) (m1 : RowKit.Hid (m < 100000000000000000000)) (sx : Sm x) (r0 : RowKit.Hid (SC w A0 la)) (k0 : RowKit.Hid (la.length ≤ ca)) (r1 : RowKit.Hid (SC w A1 lm)) (k1 : RowKit.Hid (lm.length ≤ cm)) :
    Calls Try.prog 21 #[.agg #[.bool na, .slice A0 la.length ca], .agg #[.bool false, .slice A1 lm.length cm]] w (SplitPost w x m) := by
  have hu24 := Try.underlying24
  have hl := hz.len sx
  have hmk := print_make (P := Try.prog) 22 3 .i64 8 Try.underlying22 info3 (by decide) la.length (by omega)
  go_enter Try.func21, Try.ntmps21
  go_wp2_with (first
    | ((with_reducible refine gate_dst (N := 2) rfl ?_); refine box_event ?hg (N := 2) ?hd (cs := #[.bool na, .slice A0 la.length ca]) (t := 24) ?hr ?_; (case hd => rfl); (case hg => rfl); (case hr => first | (go_simp; done) | (go_simp; rfl)); intro gA hg W1 h hb; have HgA := Lib.hid hg; have BA := Lib.hid h; have L1 := Lib.hid hb; clear hg h hb)
    | ((with_reducible refine gate_dst (N := 3) rfl ?_); refine box_event ?hg (N := 3) ?hd (cs := #[.bool false, .slice A1 lm.length cm]) (t := 24) ?hr ?_; (case hd => rfl); (case hg => rfl); (case hr => first | (go_simp; done) | (go_simp; rfl)); intro gB hg W2 h hb; have HgB := Lib.hid hg; have BB := Lib.hid h; have L2 := Lib.hid hb; clear hg h hb)
    | ((with_reducible refine gate_dst (N := 4) rfl ?_); refine box_event ?hg (N := 4) ?hd (cs := #[.bool false, .slice none 0 0]) (t := 24) ?hr ?_; (case hd => rfl); (case hg => rfl); (case hr => first | (go_simp; done) | (go_simp; rfl)); intro g4 hg W3 h hb; have Hg4 := Lib.hid hg; have B4 := Lib.hid h; have L3 := Lib.hid hb; clear hg h hb)
    | ((with_reducible refine gate_dst (N := 5) rfl ?_); refine box_event ?hg (N := 5) ?hd (cs := #[.bool false, .slice none 0 0]) (t := 24) ?hr ?_; (case hd => rfl); (case hg => rfl); (case hr => first | (go_simp; done) | (go_simp; rfl)); intro g5 hg W4 h hb; have Hg5 := Lib.hid hg; have B5 := Lib.hid h; have L4 := Lib.hid hb; clear hg h hb; obtain ⟨cB0, cB1, _, _⟩ := two_cells (blk_below (blk_below BB.out L3.out) L4.out))
    | (go_at_call 29; refine (abs_z _ _ _ _ _).mono ?_; rintro e W5 ⟨rfl, hb⟩; have L5 := Lib.hid hb; clear hb cB0 cB1)
    | ((with_reducible refine gate_dst (N := 6) rfl ?_); refine box_event ?hg (N := 6) ?hd (cs := #[.bool false, .slice none 0 0]) (t := 24) ?hr ?_; (case hd => rfl); (case hg => rfl); (case hr => first | (go_simp; done) | (go_simp; rfl)); intro g6 hg W6 h hb; have Hg6 := Lib.hid hg; obtain ⟨c60, c61, z60, z61⟩ := two_cells h; have kA := blk_below (blk_below (blk_below (blk_below (blk_below BA.out L2.out) L3.out) L4.out) L5.out) hb; obtain ⟨cA0, cA1, _, _⟩ := two_cells kA; have nA6 : gA ≠ g6 := at_ne HgA.out L1.out L2.out L3.out L4.out L5.out Hg6.out (blk_lt BA.out); have n6A := nA6.symm; have B6 := Lib.hid h; have L6 := Lib.hid hb; clear hg h hb kA)
    | ((with_reducible refine gate_dst (N := 8) rfl ?_); refine box_event ?hg (N := 8) ?hd (cs := #[.bool false, .slice none 0 0]) (t := 24) ?hr ?_; (case hd => rfl); (case hg => rfl); (case hr => first | (go_simp; done) | (go_simp; rfl)); intro g8 hg W8 h hb; have Hg8 := Lib.hid hg; have S8 := sw_start HgA.out BA.out L1.out HgB.out BB.out L2.out Hg4.out B4.out L3.out Hg5.out B5.out L4.out L5.out Hg6.out B6.out L6.out rfl (by omega) hg h hb; clear hg h hb cA0 cA1 c60 c61 z60 z61 BA BB B4 B5 B6 L1 L2 L3 L4 L5 L6 HgA HgB Hg4 Hg5 Hg6 Hg8 nA6 n6A; obtain ⟨cA0, cA1, _, _⟩ := two_cells S8.ba; replace cA1 : W8.cell? ⟨gA, 1, none⟩ = some (.slice A0 la.length ca) := cA1))
  clear hmk cA0 cA1
  generalize W6.heap.size = gq at S8 ⊢
  go_loopw [9] (fun v9 wr => ∃ (j : Nat) (z : Int) (ql rl : List Int) (vr : Value) (Q R : Int), v9 = .int .i64 z ∧ RowKit.Hid (z = (j : Int) - 1) ∧ SW w ⟨gA, gB, g4, g5, g6, gq, g8⟩ na (.slice A0 la.length ca) (.slice A1 lm.length cm) la.length ql vr rl wr ∧ OInv la ql m j Q R ∧ IsZ false rl R) (fun v9 _ => (intOf v9 + 1).toNat)
  case atStart => exact ⟨la.length, _, _, _, _, 0, 0, rfl, rfl, S8, OInv.start la m0.out, isZ_nil⟩
  case round =>
    clear S8
    obtain ⟨j, z, ql, rl, vr, Q, R, rfl, hzj, hS, hO, hR⟩ := hrel
    rcases j with _ | i
    · have hneg : z < 0 := by have := hzj.out; omega
      have cAw : wr.cell? ⟨gA, 0, none⟩ = some (.bool na) := (two_cells hS.ba).1
      have hql := hS.qlen
      have hRs := small_rest hO m1.out
      obtain ⟨Ar, cr, e, kr, rdr⟩ := sv_form hS.r
      subst e
      cases na with
      | false =>
        have F1 := Lib.hid ((fin_facts hO hz).1 rfl).1
        have F2 := Lib.hid ((fin_facts hO hz).1 rfl).2
        go_wp2_with (first
        | (go_at_call 11; refine (trim_n false _ (some ⟨gq, 0, none⟩) la.length la.length ql _ _ (Kd.R_V (base' := 0) hS.q) hO.dig (by omega) rfl).mono ?_; rintro e w2 ⟨nz, lz, vz, rfl, hzz, hvz, hb2⟩; obtain ⟨Az, cz, ez, kz, _⟩ := sv_form hvz; subst ez; clear cAw)
        | ((with_reducible refine gate_dst (N := 13) rfl ?_); refine box_event ?hg (N := 13) ?hd (cs := #[.bool false, .slice none 0 0]) (t := 24) ?hr ?_; (case hd => rfl); (case hg => rfl); (case hr => first | (go_simp; done) | (go_simp; rfl)); intro gz hg w3 h hb; have Hgz := Lib.hid hg; have SZ := hS.fin hb2 hvz (fun k hk => hk) hg h hb (nz := nz); obtain ⟨c0, c1, z0, z1⟩ := two_cells h; have hlt := blk_lt h; have HB3 := Lib.hid (below_step hb2 hb); have cA0 : w3.cell? ⟨gA, 0, none⟩ = some (.bool false) := (two_cells (blk_below hS.ba HB3.out)).1; have cB0 : w3.cell? ⟨gB, 0, none⟩ = some (.bool false) := (two_cells (blk_below hS.bb HB3.out)).1; have c80 : w3.cell? ⟨g8, 0, none⟩ = some (.bool false) := (two_cells (blk_below hS.br HB3.out)).1; have c81 : w3.cell? ⟨g8, 1, none⟩ = some (.slice Ar rl.length cr) := (two_cells (blk_below hS.br HB3.out)).2.1; have nA : gA ≠ gz := gz_ne (blk_lt hS.ba) hb2.size hg; have nB : gB ≠ gz := gz_ne (blk_lt hS.bb) hb2.size hg; have n8 : g8 ≠ gz := gz_ne (blk_lt hS.br) hb2.size hg; have nA' := nA.symm; have nB' := nB.symm; have n8' := n8.symm; clear hg h hb hb2 hvz hlt))
        clear c0 c1 z0 z1 cA0 cB0 c80 c81
        generalize (w3.setCell ⟨gz, 0, none⟩ (.bool nz)).setCell ⟨gz, 1, none⟩ (.slice Az lz.length cz) = wv at SZ ⊢
        have SD := SZ.drew
        refine start_ (n := 4) (S := fun w' => w'.heap[gz]? = some (.cells #[.bool nz, .slice Az lz.length cz] 24 (0, 0)) ∧ w'.heap[g8]? = some (.cells #[.bool false, .slice Ar rl.length cr] 24 (0, 0))) (ds := [3]) #[false, false, false, false] (by kernel_rfl) rfl rfl (⟨SZ.drew.bz, SZ.drew.br⟩) (fun hHeld => ?_)
        clear SZ
        generalize wv.drew = w91 at hHeld SD ⊢
        refine take_ (i := 0) (N := some 88) (v := ?_) (a' := ?_) #[true, false, false, false] rfl rfl (by kernel_rfl) (fun _ _ _ h => h) (Or.inl ⟨by rfl, ?_⟩) hHeld ?_ ?_
        rotate_left
        · intro w' hs
          have c0 : w'.cell? ⟨gz, 0, none⟩ = some (.bool nz) := (two_cells hs.1).1
          have c1 : w'.cell? ⟨gz, 1, none⟩ = some (.slice Az lz.length cz) := (two_cells hs.1).2.1
          clear hs
          go_simp
          with_reducible rfl
        rotate_left
        · simp only [Act.put, List.setIfInBounds_toArray, List.set_cons_zero, List.set_cons_succ, i64_w, i32_w]
          rfl
        refine take_ (i := 1) (N := some 89) (v := ?_) (a' := ?_) #[true, true, false, false] rfl rfl (by kernel_rfl) (fun _ _ _ h => h) (Or.inl ⟨by rfl, ?_⟩) hHeld ?_ ?_
        rotate_left
        · intro w' hs
          have c0 : w'.cell? ⟨g8, 0, none⟩ = some (.bool false) := (two_cells hs.2).1
          have c1 : w'.cell? ⟨g8, 1, none⟩ = some (.slice Ar rl.length cr) := (two_cells hs.2).2.1
          clear hs
          go_simp
          with_reducible rfl
        rotate_left
        · simp only [Act.put, List.setIfInBounds_toArray, List.set_cons_zero, List.set_cons_succ, i64_w, i32_w]
          rfl
        have n45 : g4 ≠ g5 := Nat.ne_of_lt SD.ok.o3
        have n54 := n45.symm
        obtain ⟨c0, c1, z0, z1⟩ := two_cells SD.bx
        obtain ⟨d0, d1, y0, y1⟩ := two_cells SD.by_
        refine one_ (i := 2) (N := none) #[true, true, true, false] rfl rfl (by kernel_rfl) (by decide) (fun K hK => ?_)
        refine skip_ (w1 := ?_) (by rfl) rfl ?_ ?_
        rotate_left
        · go_simp
          rfl
        refine hK.out _ _ ⟨blk_far (blk_far SD.bz (fin_ne3 SD.ok) _) (fin_ne3 SD.ok) _, blk_far (blk_far SD.br (fin_ne4 SD.ok) _) (fin_ne4 SD.ok) _⟩ (fun hHeld => ?_)
        clear hK K
        refine last_ (i := 3) (N := none) #[true, true, true, true] rfl rfl (by kernel_rfl) (by decide) (fun K hK => ?_)
        refine skip_ (w1 := ?_) (by rfl) rfl ?_ ?_
        rotate_left
        · go_simp
          rfl
        refine hK.out _ _ ?_
        clear hK K
        refine done_ (by kernel_rfl) ?_
        obtain ⟨bx, bY, sz, sr, hbel⟩ := SD.last rfl
        clear SD hHeld c0 c1 z0 z1 d0 d1 y0 y1 n45 n54
        go_wp2
        refine bodyPost_ret (results_cc rfl _ _ g4 g5 24 24 #[.bool nz, .slice Az lz.length cz] #[.bool false, .slice Ar rl.length cr] (0, 0) (0, 0) _ _ rfl bx Try.underlying24 rfl (by kernel_rfl) rfl bY Try.underlying24 rfl (by kernel_rfl)) rfl ?_
        exact ⟨_, _, _, _, _, _, rfl, (by rw [← F1.out]; exact hzz), (by rw [← F2.out]; exact hR), sz, sr, hbel⟩
      | true =>
        by_cases hR0 : R = 0
        · have hcm : cmp R 0 = 0 := cmp_eq hR0
          have F1 := Lib.hid ((fin_facts hO hz).2.1 rfl hR0).1
          have F2 := Lib.hid ((fin_facts hO hz).2.1 rfl hR0).2
          have HC := Lib.hid hcm
          clear hcm
          go_wp2_with (first
        | (go_at_call 11; refine (trim_n true _ (some ⟨gq, 0, none⟩) la.length la.length ql _ _ (Kd.R_V (base' := 0) hS.q) hO.dig (by omega) rfl).mono ?_; rintro e w2 ⟨nz, lz, vz, rfl, hzz, hvz, hb2⟩; obtain ⟨Az, cz, ez, kz, _⟩ := sv_form hvz; subst ez; clear cAw)
        | ((with_reducible refine gate_dst (N := 13) rfl ?_); refine box_event ?hg (N := 13) ?hd (cs := #[.bool false, .slice none 0 0]) (t := 24) ?hr ?_; (case hd => rfl); (case hg => rfl); (case hr => first | (go_simp; done) | (go_simp; rfl)); intro gz hg w3 h hb; have Hgz := Lib.hid hg; have SZ := hS.fin hb2 hvz (fun k hk => hk) hg h hb (nz := nz); obtain ⟨c0, c1, z0, z1⟩ := two_cells h; have hlt := blk_lt h; have HB3 := Lib.hid (below_step hb2 hb); have cA0 : w3.cell? ⟨gA, 0, none⟩ = some (.bool true) := (two_cells (blk_below hS.ba HB3.out)).1; have cB0 : w3.cell? ⟨gB, 0, none⟩ = some (.bool false) := (two_cells (blk_below hS.bb HB3.out)).1; have c80 : w3.cell? ⟨g8, 0, none⟩ = some (.bool false) := (two_cells (blk_below hS.br HB3.out)).1; have c81 : w3.cell? ⟨g8, 1, none⟩ = some (.slice Ar rl.length cr) := (two_cells (blk_below hS.br HB3.out)).2.1; have nA : gA ≠ gz := gz_ne (blk_lt hS.ba) hb2.size hg; have nB : gB ≠ gz := gz_ne (blk_lt hS.bb) hb2.size hg; have n8 : g8 ≠ gz := gz_ne (blk_lt hS.br) hb2.size hg; have nA' := nA.symm; have nB' := nB.symm; have n8' := n8.symm; clear hg h hb hb2 hvz hlt)
        | (go_at_call 31; refine (sign_z false rl R (Ar) cr _ hR (sv_read SZ.r).2.2 kr).mono ?_; rintro e wv ⟨rfl, hb5⟩; rw [HC.out]; have SZ5 := SZ.step hb5; clear cB0; have cB0 : wv.cell? ⟨gB, 0, none⟩ = some (.bool false) := (two_cells SZ5.bb).1))
          clear c0 c1 z0 z1 cA0 cB0 c80 c81 SZ hb5
          have SZ := SZ5
          clear SZ5
          have SD := SZ.drew
          refine start_ (n := 4) (S := fun w' => w'.heap[gz]? = some (.cells #[.bool nz, .slice Az lz.length cz] 24 (0, 0)) ∧ w'.heap[g8]? = some (.cells #[.bool false, .slice Ar rl.length cr] 24 (0, 0))) (ds := [3]) #[false, false, false, false] (by kernel_rfl) rfl rfl (⟨SZ.drew.bz, SZ.drew.br⟩) (fun hHeld => ?_)
          clear SZ
          generalize wv.drew = w91 at hHeld SD ⊢
          refine take_ (i := 0) (N := some 88) (v := ?_) (a' := ?_) #[true, false, false, false] rfl rfl (by kernel_rfl) (fun _ _ _ h => h) (Or.inl ⟨by rfl, ?_⟩) hHeld ?_ ?_
          rotate_left
          · intro w' hs
            have c0 : w'.cell? ⟨gz, 0, none⟩ = some (.bool nz) := (two_cells hs.1).1
            have c1 : w'.cell? ⟨gz, 1, none⟩ = some (.slice Az lz.length cz) := (two_cells hs.1).2.1
            clear hs
            go_simp
            with_reducible rfl
          rotate_left
          · simp only [Act.put, List.setIfInBounds_toArray, List.set_cons_zero, List.set_cons_succ, i64_w, i32_w]
            rfl
          refine take_ (i := 1) (N := some 89) (v := ?_) (a' := ?_) #[true, true, false, false] rfl rfl (by kernel_rfl) (fun _ _ _ h => h) (Or.inl ⟨by rfl, ?_⟩) hHeld ?_ ?_
          rotate_left
          · intro w' hs
            have c0 : w'.cell? ⟨g8, 0, none⟩ = some (.bool false) := (two_cells hs.2).1
            have c1 : w'.cell? ⟨g8, 1, none⟩ = some (.slice Ar rl.length cr) := (two_cells hs.2).2.1
            clear hs
            go_simp
            with_reducible rfl
          rotate_left
          · simp only [Act.put, List.setIfInBounds_toArray, List.set_cons_zero, List.set_cons_succ, i64_w, i32_w]
            rfl
          have n45 : g4 ≠ g5 := Nat.ne_of_lt SD.ok.o3
          have n54 := n45.symm
          obtain ⟨c0, c1, z0, z1⟩ := two_cells SD.bx
          obtain ⟨d0, d1, y0, y1⟩ := two_cells SD.by_
          refine one_ (i := 2) (N := none) #[true, true, true, false] rfl rfl (by kernel_rfl) (by decide) (fun K hK => ?_)
          refine skip_ (w1 := ?_) (by rfl) rfl ?_ ?_
          rotate_left
          · go_simp
            rfl
          refine hK.out _ _ ⟨blk_far (blk_far SD.bz (fin_ne3 SD.ok) _) (fin_ne3 SD.ok) _, blk_far (blk_far SD.br (fin_ne4 SD.ok) _) (fin_ne4 SD.ok) _⟩ (fun hHeld => ?_)
          clear hK K
          refine last_ (i := 3) (N := none) #[true, true, true, true] rfl rfl (by kernel_rfl) (by decide) (fun K hK => ?_)
          refine skip_ (w1 := ?_) (by rfl) rfl ?_ ?_
          rotate_left
          · go_simp
            rfl
          refine hK.out _ _ ?_
          clear hK K
          refine done_ (by kernel_rfl) ?_
          obtain ⟨bx, bY, sz, sr, hbel⟩ := SD.last rfl
          clear SD hHeld c0 c1 z0 z1 d0 d1 y0 y1 n45 n54
          go_wp2
          refine bodyPost_ret (results_cc rfl _ _ g4 g5 24 24 #[.bool nz, .slice Az lz.length cz] #[.bool false, .slice Ar rl.length cr] (0, 0) (0, 0) _ _ rfl bx Try.underlying24 rfl (by kernel_rfl) rfl bY Try.underlying24 rfl (by kernel_rfl)) rfl ?_
          exact ⟨_, _, _, _, _, _, rfl, (by rw [← F1.out]; exact hzz), (by rw [← F2.out]; exact hR), sz, sr, hbel⟩
        · have hcm : cmp R 0 = 1 := cmp_gt (by have := hO.R0; omega)
          have F1 := Lib.hid ((fin_facts hO hz).2.2 rfl hR0 sx m0.out).1
          have F2 := Lib.hid ((fin_facts hO hz).2.2 rfl hR0 sx m0.out).2.1
          have F3 := Lib.hid ((fin_facts hO hz).2.2 rfl hR0 sx m0.out).2.2
          have HC := Lib.hid hcm
          clear hcm
          go_wp2_with (first
        | (go_at_call 11; refine (trim_n true _ (some ⟨gq, 0, none⟩) la.length la.length ql _ _ (Kd.R_V (base' := 0) hS.q) hO.dig (by omega) rfl).mono ?_; rintro e w2 ⟨nz, lz, vz, rfl, hzz, hvz, hb2⟩; obtain ⟨Az, cz, ez, kz, _⟩ := sv_form hvz; subst ez; clear cAw)
        | ((with_reducible refine gate_dst (N := 13) rfl ?_); refine box_event ?hg (N := 13) ?hd (cs := #[.bool false, .slice none 0 0]) (t := 24) ?hr ?_; (case hd => rfl); (case hg => rfl); (case hr => first | (go_simp; done) | (go_simp; rfl)); intro gz hg w3 h hb; have Hgz := Lib.hid hg; have SZ := hS.fin hb2 hvz (fun k hk => hk) hg h hb (nz := nz); obtain ⟨c0, c1, z0, z1⟩ := two_cells h; have hlt := blk_lt h; have HB3 := Lib.hid (below_step hb2 hb); have cA0 : w3.cell? ⟨gA, 0, none⟩ = some (.bool true) := (two_cells (blk_below hS.ba HB3.out)).1; have cB0 : w3.cell? ⟨gB, 0, none⟩ = some (.bool false) := (two_cells (blk_below hS.bb HB3.out)).1; have c80 : w3.cell? ⟨g8, 0, none⟩ = some (.bool false) := (two_cells (blk_below hS.br HB3.out)).1; have c81 : w3.cell? ⟨g8, 1, none⟩ = some (.slice Ar rl.length cr) := (two_cells (blk_below hS.br HB3.out)).2.1; have nA : gA ≠ gz := gz_ne (blk_lt hS.ba) hb2.size hg; have nB : gB ≠ gz := gz_ne (blk_lt hS.bb) hb2.size hg; have n8 : g8 ≠ gz := gz_ne (blk_lt hS.br) hb2.size hg; have nA' := nA.symm; have nB' := nB.symm; have n8' := n8.symm; clear hg h hb hb2 hvz hlt)
        | (go_at_call 31; refine (sign_z false rl R (Ar) cr _ hR (sv_read SZ.r).2.2 kr).mono ?_; rintro e wv ⟨rfl, hb5⟩; rw [HC.out]; have SZ5 := SZ.step hb5; clear cB0; have cB0 : wv.cell? ⟨gB, 0, none⟩ = some (.bool false) := (two_cells SZ5.bb).1))
          clear c0 c1 z0 z1 cA0 cB0 c80 c81 SZ hb5
          have SZ := SZ5
          clear SZ5
          refine start_ (n := 8) (S := SF w ⟨gB, g4, g5, g6, g8, gz⟩ (.slice A1 lm.length cm) nz (.slice Az lz.length cz) lz false (.slice Ar rl.length cr) rl) (ds := [6, 7]) #[false, false, false, false, false, false, false, false] (by kernel_rfl) rfl rfl (SZ.drew) (fun hHeld => ?_)
          refine with_tabW tab18 bits18 (fun HT_ HW_ => ?_)
          clear SZ
          generalize wv.drew = w61 at hHeld ⊢
          have hH0 := hHeld
          refine take_ (i := 0) (N := some 78) (v := ?_) (a' := ?_) #[true, false, false, false, false, false, false, false] rfl rfl (take_ofW HT_.out HW_.out (by kernel_rfl)) (fun _ _ _ h => h) (Or.inl ⟨by rfl, ?_⟩) hHeld ?_ ?_
          rotate_left
          · intro w' hs
            have c0 : w'.cell? ⟨gz, 0, none⟩ = some (.bool nz) := (two_cells hs.bz).1
            have c1 : w'.cell? ⟨gz, 1, none⟩ = some (.slice Az lz.length cz) := (two_cells hs.bz).2.1
            clear hs
            go_simp
            with_reducible rfl
          rotate_left
          · simp only [Act.put, List.setIfInBounds_toArray, List.set_cons_zero, List.set_cons_succ, i64_w, i32_w]
            rfl
          refine take_ (i := 3) (N := some 81) (v := ?_) (a' := ?_) #[true, false, false, true, false, false, false, false] rfl rfl (take_ofW HT_.out HW_.out (by kernel_rfl)) (fun _ _ _ h => h) (Or.inl ⟨by rfl, ?_⟩) hHeld ?_ ?_
          rotate_left
          · intro w' hs
            have c0 : w'.cell? ⟨g6, 0, none⟩ = some (.bool false) := (two_cells hs.bm).1
            have c1 : w'.cell? ⟨g6, 1, none⟩ = some (.slice A1 lm.length cm) := (two_cells hs.bm).2.1
            clear hs
            go_simp
            with_reducible rfl
          rotate_left
          · simp only [Act.put, List.setIfInBounds_toArray, List.set_cons_zero, List.set_cons_succ, i64_w, i32_w]
            rfl
          refine take_ (i := 4) (N := some 82) (v := ?_) (a' := ?_) #[true, false, false, true, true, false, false, false] rfl rfl (take_ofW HT_.out HW_.out (by kernel_rfl)) (fun _ _ _ h => h) (Or.inl ⟨by rfl, ?_⟩) hHeld ?_ ?_
          rotate_left
          · intro w' hs
            have c0 : w'.cell? ⟨g8, 0, none⟩ = some (.bool false) := (two_cells hs.br).1
            have c1 : w'.cell? ⟨g8, 1, none⟩ = some (.slice Ar rl.length cr) := (two_cells hs.br).2.1
            clear hs
            go_simp
            with_reducible rfl
          rotate_left
          · simp only [Act.put, List.setIfInBounds_toArray, List.set_cons_zero, List.set_cons_succ, i64_w, i32_w]
            rfl
          refine one_ (i := 1) (N := some 79) #[true, true, false, true, true, false, false, false] rfl rfl (one_of HT_.out (by kernel_rfl)) (by decide) (fun K hK => ?_)
          refine goes_ Try.func4 (by kernel_rfl) rfl #[.int .i64 1] (by rfl) rfl rfl (by (try simp only [List.map_toArray, List.map_cons, List.map_nil]); first | done | rfl) ?_
          refine (i_z 1 _ (by decide) (by decide)).mono ?_
          rintro e w62 ⟨n1, l1, v1, rfl, hz1, hv1, hb1⟩
          obtain ⟨A1', c1, e1, k1', _⟩ := sv_form hv1
          subst e1
          refine ⟨_, rfl, ?_⟩
          have S1 := hHeld.step hb1
          refine hK.out _ _ (S1) (fun hHeld => ?_)
          clear hK K
          refine norm_ (a' := ?_) ?_ ?_
          rotate_left
          · show Act.put _ (some 79) _ = _
            simp only [Act.put, List.setIfInBounds_toArray, List.set_cons_zero, List.set_cons_succ, i64_w, i32_w]
            rfl
          refine one_ (i := 2) (N := some 80) #[true, true, true, true, true, false, false, false] rfl rfl (one_of HT_.out (by kernel_rfl)) (by decide) (fun K hK => ?_)
          refine goes_ Try.func30 (by kernel_rfl) rfl #[.agg #[.bool nz, .slice Az lz.length cz], .agg #[.bool n1, .slice A1' l1.length c1]] (by rfl) rfl rfl (by (try simp only [List.map_toArray, List.map_cons, List.map_nil]); first | done | rfl) ?_
          refine (less_z _ nz n1 lz l1 _ 1 Az A1' cz c1 _ hzz hz1 F3.out (d_small (by decide) (by decide)) (sv_read hHeld.z).2.2 (sv_read hHeld.z).2.1 hv1).mono ?_
          rintro e w63 ⟨n2, l2, v2, rfl, hz2, hv2, hb2⟩
          have hv2' := hH0.off hv2 (by have q1 := hb1.size; rintro k (hk | hk) <;> (right; omega))
          obtain ⟨A2, c2, e2, k2, _⟩ := sv_form hv2'
          subst e2
          refine ⟨_, rfl, ?_⟩
          have S2 := hHeld.step hb2
          refine hK.out _ _ (S2) (fun hHeld => ?_)
          clear hK K
          refine norm_ (a' := ?_) ?_ ?_
          rotate_left
          · show Act.put _ (some 80) _ = _
            simp only [Act.put, List.setIfInBounds_toArray, List.set_cons_zero, List.set_cons_succ, i64_w, i32_w]
            rfl
          refine one_ (i := 5) (N := some 83) #[true, true, true, true, true, true, false, false] rfl rfl (one_of HT_.out (by kernel_rfl)) (by decide) (fun K hK => ?_)
          refine goes_ Try.func30 (by kernel_rfl) rfl #[.agg #[.bool false, .slice A1 lm.length cm], .agg #[.bool false, .slice Ar rl.length cr]] (by rfl) rfl rfl (by (try simp only [List.map_toArray, List.map_cons, List.map_nil]); first | done | rfl) ?_
          refine (less_z _ false false lm rl m R A1 Ar cm cr _ hm hR (m_small m0.out m1.out) hRs (Kd.C_below r1.out hHeld.below) k1.out hHeld.r).mono ?_
          rintro e w64 ⟨n3, l3, v3, rfl, hz3, hv3, hb3⟩
          obtain rfl : n3 = false := hz3.pos (by have := hO.R1; omega)
          have hv3' := hH0.off hv3 (by have q1 := hb1.size; have q2 := hb2.size; rintro k (hk | hk); (exact .inl hk); (right; omega))
          have hv2'' := Kd.V_below hv2' hb3
          obtain ⟨A3, c3, e3, k3, _⟩ := sv_form hv3'
          subst e3
          refine ⟨_, rfl, ?_⟩
          have S3 := hHeld.step hb3
          refine hK.out _ _ (S3) (fun hHeld => ?_)
          clear hK K
          refine norm_ (a' := ?_) ?_ ?_
          rotate_left
          · show Act.put _ (some 83) _ = _
            simp only [Act.put, List.setIfInBounds_toArray, List.set_cons_zero, List.set_cons_succ, i64_w, i32_w]
            rfl
          have S4 := (hHeld.setz (n' := n2) hv2'').setr (n' := false) (Kd.V_far (Kd.V_far hv3' (p := ⟨gz, 0, none⟩) (fun k hk => hk.1.2.2.2) (.bool n2)) (p := ⟨gz, 1, none⟩) (fun k hk => hk.1.2.2.2) (.slice A2 l2.length c2))
          have nrz : g8 ≠ gz := Nat.ne_of_lt hHeld.ok.o6
          have nzr := nrz.symm
          obtain ⟨c0, c1_, z0, z1⟩ := two_cells hHeld.bz
          obtain ⟨d0, d1, y0, y1⟩ := two_cells hHeld.br
          have cB0 : w64.cell? ⟨gB, 0, none⟩ = some (.bool false) := (two_cells hHeld.bb).1
          have nBz : gB ≠ gz := fin_ne1 hHeld.ok
          have nBr : gB ≠ g8 := fin_ne2 hHeld.ok
          refine last_ (i := 6) (N := none) #[true, true, true, true, true, true, true, false] rfl rfl (one_of HT_.out (by kernel_rfl)) (by decide) (fun K hK => ?_)
          refine skip_ (w1 := ?_) (by rfl) rfl ?_ ?_
          rotate_left
          · go_simp
            rfl
          refine hK.out _ _ ?_
          clear hK K
          refine last_ (i := 7) (N := none) #[true, true, true, true, true, true, true, true] rfl rfl (one_of HT_.out (by kernel_rfl)) (by decide) (fun K hK => ?_)
          refine skip_ (w1 := ?_) (by rfl) rfl ?_ ?_
          rotate_left
          · go_simp
            rfl
          refine hK.out _ _ ?_
          clear hK K
          refine done_ (done_of HT_.out (by kernel_rfl)) ?_
          clear hHeld S1 S2 S3 hH0 c0 c1_ z0 z1 d0 d1 y0 y1 hv1 hv2 hv3 hv2' hv3' hv2'' hb1 hb2 hb3
          go_wp2
          clear cB0 nBz nBr nrz nzr
          generalize (((w64.setCell ⟨gz, 0, none⟩ (.bool n2)).setCell ⟨gz, 1, none⟩ (.slice A2 l2.length c2)).setCell ⟨g8, 0, none⟩ (.bool false)).setCell ⟨g8, 1, none⟩ (.slice A3 l3.length c3) = wv at S4 ⊢
          have SZ := S4
          clear S4
          have SD := SZ.drew
          refine start_ (n := 4) (S := fun w' => w'.heap[gz]? = some (.cells #[.bool n2, .slice A2 l2.length c2] 24 (0, 0)) ∧ w'.heap[g8]? = some (.cells #[.bool false, .slice A3 l3.length c3] 24 (0, 0))) (ds := [3]) #[false, false, false, false] (by kernel_rfl) rfl rfl (⟨SZ.drew.bz, SZ.drew.br⟩) (fun hHeld => ?_)
          clear SZ
          generalize wv.drew = w91 at hHeld SD ⊢
          refine take_ (i := 0) (N := some 88) (v := ?_) (a' := ?_) #[true, false, false, false] rfl rfl (by kernel_rfl) (fun _ _ _ h => h) (Or.inl ⟨by rfl, ?_⟩) hHeld ?_ ?_
          rotate_left
          · intro w' hs
            have c0 : w'.cell? ⟨gz, 0, none⟩ = some (.bool n2) := (two_cells hs.1).1
            have c1 : w'.cell? ⟨gz, 1, none⟩ = some (.slice A2 l2.length c2) := (two_cells hs.1).2.1
            clear hs
            go_simp
            with_reducible rfl
          rotate_left
          · simp only [Act.put, List.setIfInBounds_toArray, List.set_cons_zero, List.set_cons_succ, i64_w, i32_w]
            rfl
          refine take_ (i := 1) (N := some 89) (v := ?_) (a' := ?_) #[true, true, false, false] rfl rfl (by kernel_rfl) (fun _ _ _ h => h) (Or.inl ⟨by rfl, ?_⟩) hHeld ?_ ?_
          rotate_left
          · intro w' hs
            have c0 : w'.cell? ⟨g8, 0, none⟩ = some (.bool false) := (two_cells hs.2).1
            have c1 : w'.cell? ⟨g8, 1, none⟩ = some (.slice A3 l3.length c3) := (two_cells hs.2).2.1
            clear hs
            go_simp
            with_reducible rfl
          rotate_left
          · simp only [Act.put, List.setIfInBounds_toArray, List.set_cons_zero, List.set_cons_succ, i64_w, i32_w]
            rfl
          have n45 : g4 ≠ g5 := Nat.ne_of_lt SD.ok.o3
          have n54 := n45.symm
          obtain ⟨c0, c1, z0, z1⟩ := two_cells SD.bx
          obtain ⟨d0, d1, y0, y1⟩ := two_cells SD.by_
          refine one_ (i := 2) (N := none) #[true, true, true, false] rfl rfl (by kernel_rfl) (by decide) (fun K hK => ?_)
          refine skip_ (w1 := ?_) (by rfl) rfl ?_ ?_
          rotate_left
          · go_simp
            rfl
          refine hK.out _ _ ⟨blk_far (blk_far SD.bz (fin_ne3 SD.ok) _) (fin_ne3 SD.ok) _, blk_far (blk_far SD.br (fin_ne4 SD.ok) _) (fin_ne4 SD.ok) _⟩ (fun hHeld => ?_)
          clear hK K
          refine last_ (i := 3) (N := none) #[true, true, true, true] rfl rfl (by kernel_rfl) (by decide) (fun K hK => ?_)
          refine skip_ (w1 := ?_) (by rfl) rfl ?_ ?_
          rotate_left
          · go_simp
            rfl
          refine hK.out _ _ ?_
          clear hK K
          refine done_ (by kernel_rfl) ?_
          obtain ⟨bx, bY, sz, sr, hbel⟩ := SD.last rfl
          clear SD hHeld c0 c1 z0 z1 d0 d1 y0 y1 n45 n54
          go_wp2
          refine bodyPost_ret (results_cc rfl _ _ g4 g5 24 24 #[.bool n2, .slice A2 l2.length c2] #[.bool false, .slice A3 l3.length c3] (0, 0) (0, 0) _ _ rfl bx Try.underlying24 rfl (by kernel_rfl) rfl bY Try.underlying24 rfl (by kernel_rfl)) rfl ?_
          exact ⟨_, _, _, _, _, _, rfl, (by rw [← F1.out]; exact hz2), (by rw [← F2.out]; exact hz3), sz, sr, hbel⟩
    · have hzi : RowKit.Hid (z = (i : Int)) := by have := hzj.out; show z = (i : Int); omega
      have hz0 : 0 ≤ z := by have := hzi.out; omega
      have hil := hO.hj
      have hz1 : z < (la.length : Int) := by have := hzi.out; omega
      obtain ⟨ad, ead, _⟩ := Kd.at_int r0.out z hz0 hz1
      subst ead
      have hcell : RowKit.Hid (∀ w', Below w.heap.size w w' → w'.cell? (ad.add z.toNat) = some (.int .i64 (rd la z))) := fun w' hb => Kd.foot_int (Kd.C_below r0.out hb) z hz0 hz1
      obtain ⟨Ar, cr, rfl, kr, _⟩ := sv_form hS.r
      go_wp2
      refine start_ (n := 11) (S := SW w ⟨gA, gB, g4, g5, g6, gq, g8⟩ na (.slice (some ad) la.length ca) (.slice A1 lm.length cm) la.length ql (.slice Ar rl.length cr) rl) (ds := [10]) #[false, false, false, false, false, false, false, false, false, false, false] (by kernel_rfl) rfl rfl (hS.drew) (fun hHeld => ?_)
      refine with_tabW tab7 bits7 (fun HT_ HW_ => ?_)
      clear hS
      generalize wr.drew = w36 at hHeld ⊢
      have hH0 := hHeld
      refine take_ (i := 0) (N := some 28) (v := ?_) (a' := ?_) #[true, false, false, false, false, false, false, false, false, false, false] rfl rfl (take_ofW HT_.out HW_.out (by kernel_rfl)) (fun _ _ _ h => h) (Or.inl ⟨by rfl, ?_⟩) hHeld ?_ ?_
      rotate_left
      · intro w' hs
        clear hs
        go_simp
        with_reducible rfl
      rotate_left
      · simp only [Act.put, List.setIfInBounds_toArray, List.set_cons_zero, List.set_cons_succ, i64_w, i32_w]
        rfl
      refine take_ (i := 1) (N := some 29) (v := ?_) (a' := ?_) #[true, true, false, false, false, false, false, false, false, false, false] rfl rfl (take_ofW HT_.out HW_.out (by kernel_rfl)) (fun _ _ _ h => h) (Or.inl ⟨by rfl, ?_⟩) hHeld ?_ ?_
      rotate_left
      · intro w' hs
        have c1 : w'.cell? ⟨gA, 1, none⟩ = some (.slice (some ad) la.length ca) := (two_cells hs.ba).2.1
        clear hs
        go_simp
        with_reducible rfl
      rotate_left
      · simp only [Act.put, List.setIfInBounds_toArray, List.set_cons_zero, List.set_cons_succ, i64_w, i32_w]
        rfl
      refine take_ (i := 2) (N := some 30) (v := ?_) (a' := ?_) #[true, true, true, false, false, false, false, false, false, false, false] rfl rfl (take_ofW HT_.out HW_.out (by kernel_rfl)) (fun _ _ _ h => h) (Or.inl ⟨by rfl, ?_⟩) hHeld ?_ ?_
      rotate_left
      · intro w' hs
        clear hs
        go_simp
        with_reducible rfl
      rotate_left
      · simp only [Act.put, List.setIfInBounds_toArray, List.set_cons_zero, List.set_cons_succ, i64_w, i32_w]
        rfl
      refine take_ (i := 3) (N := some 31) (v := ?_) (a' := ?_) #[true, true, true, true, false, false, false, false, false, false, false] rfl rfl (take_ofW HT_.out HW_.out (by kernel_rfl)) (fun _ _ _ h => h) (Or.inl ⟨by rfl, ?_⟩) hHeld ?_ ?_
      rotate_left
      · intro w' hs
        clear hs
        go_simp
        with_reducible rfl
      rotate_left
      · simp only [Act.put, List.setIfInBounds_toArray, List.set_cons_zero, List.set_cons_succ, i64_w, i32_w]
        rfl
      refine take_ (i := 4) (N := some 32) (v := ?_) (a' := ?_) #[true, true, true, true, true, false, false, false, false, false, false] rfl rfl (take_ofW HT_.out HW_.out (by kernel_rfl)) (fun _ _ _ h => h) (Or.inl ⟨by rfl, ?_⟩) hHeld ?_ ?_
      rotate_left
      · intro w' hs
        have c1 := hcell.out w' hs.below
        clear hs
        go_simp
        with_reducible rfl
      rotate_left
      · simp only [Act.put, List.setIfInBounds_toArray, List.set_cons_zero, List.set_cons_succ, i64_w, i32_w]
        rfl
      refine take_ (i := 6) (N := some 34) (v := ?_) (a' := ?_) #[true, true, true, true, true, false, true, false, false, false, false] rfl rfl (take_ofW HT_.out HW_.out (by kernel_rfl)) (fun _ _ _ h => h) (Or.inl ⟨by rfl, ?_⟩) hHeld ?_ ?_
      rotate_left
      · intro w' hs
        clear hs
        go_simp
        with_reducible rfl
      rotate_left
      · simp only [Act.put, List.setIfInBounds_toArray, List.set_cons_zero, List.set_cons_succ, i64_w, i32_w]
        rfl
      refine take_ (i := 7) (N := some 35) (v := ?_) (a' := ?_) #[true, true, true, true, true, false, true, true, false, false, false] rfl rfl (take_ofW HT_.out HW_.out (by kernel_rfl)) (fun _ _ _ h => h) (Or.inl ⟨by rfl, ?_⟩) hHeld ?_ ?_
      rotate_left
      · intro w' hs
        have c1 : w'.cell? ⟨g8, 1, none⟩ = some (.slice Ar rl.length cr) := (two_cells hs.br).2.1
        clear hs
        go_simp
        with_reducible rfl
      rotate_left
      · simp only [Act.put, List.setIfInBounds_toArray, List.set_cons_zero, List.set_cons_succ, i64_w, i32_w]
        rfl
      refine one_ (i := 5) (N := some 33) #[true, true, true, true, true, true, true, true, false, false, false] rfl rfl (one_of HT_.out (by kernel_rfl)) (by decide) (fun K hK => ?_)
      refine Kd.R_lit_step (Kd.int .i64) (w0 := w36) w36.heap.size 3 ?hg (N := 33) ?hd (xs := ([rd la z] : List Int)) (inner := [.int .i64 (rd la z)]) (ok := fun _ => True) (okp := fun _ => True) ?hr ?hp (fun _ hk => hk) trivial (Below.refl _ _) (Nat.le_refl _) (by simp) ?_; (case hd => rfl); (case hg => rfl); (case hr => first | (go_simp; done) | (go_simp; rfl)); (case hp => exact (Reps.one (show Kd.M (Kd.int .i64) _ _ _ (rd la z) [.int .i64 (rd la z)] from rfl) (Reps.none _ _)))
      intro v1 w37 hv1 hb1 _ _
      have S1 := hHeld.step hb1
      refine hK.out _ _ (S1) (fun hHeld => ?_)
      clear hK K
      refine norm_ (a' := ?_) ?_ ?_
      rotate_left
      · show Act.put _ (some 33) _ = _
        simp only [Act.put, List.setIfInBounds_toArray, List.set_cons_zero, List.set_cons_succ, i64_w, i32_w]
        rfl
      refine one_ (i := 8) (N := some 36) #[true, true, true, true, true, true, true, true, true, false, false] rfl rfl (one_of HT_.out (by kernel_rfl)) (by decide) (fun K hK => ?_)
      refine Kd.R_append_rows_step (Kd.int .i64) (w0 := w36) w36.heap.size (by rfl) (.tmp 33) (.tmp 35) 22 3 (.int .i64 0) 8 rfl Try.underlying22 info3 rfl (by decide) (by omega) v1 [rd la z] rl _ _ _ (fun _ => True) (fun _ => False) rfl rfl ?aO ?aR (fun _ _ h => h) (fun _ h => h.elim) ?aF ?aB ?aS ?aL ?_
      (case aR => exact (sv_read hHeld.r).2.2)
      (case aO => exact hv1)
      (case aF => exact fun _ _ => trivial)
      (case aB => exact hb1)
      (case aS => exact hb1.size)
      (case aL => have := hR.len (small_rest hO m1.out); simp; omega)
      intro v2 w38 hv2 hb2 _ _
      have S2 := hH0.step hb2
      obtain ⟨y, hy⟩ : ∃ y, y = [rd la z] ++ rl := ⟨_, rfl⟩
      rw [← hy] at hv2
      have HY := Lib.hid hy
      clear hy
      obtain ⟨A2, c2, e2⟩ := Kd.R_slice hv2
      subst e2
      refine hK.out _ _ (S2) (fun hHeld => ?_)
      clear hK K
      refine norm_ (a' := ?_) ?_ ?_
      rotate_left
      · show Act.put _ (some 36) _ = _
        simp only [Act.put, List.setIfInBounds_toArray, List.set_cons_zero, List.set_cons_succ, i64_w, i32_w]
        rfl
      refine one_ (i := 9) (N := some 37) #[true, true, true, true, true, true, true, true, true, true, false] rfl rfl (one_of HT_.out (by kernel_rfl)) (by decide) (fun K hK => ?_)
      refine goes_ Try.func11 (by kernel_rfl) rfl #[.bool false, .slice A2 y.length c2] (by rfl) rfl rfl (by (try simp only [List.map_toArray, List.map_cons, List.map_nil]); first | done | rfl) ?_
      have hyd : RowKit.Hid (Dig y ∧ y.length < 1000 ∧ sv false y = rd la z + 1000000 * R ∧ 0 ≤ rd la z + 1000000 * R) := y_facts HY.out hz hR (small_rest hO m1.out) hO.R0 z
      refine (trim_z false _ A2 c2 y (rd la z + 1000000 * R) _ (sv_of_R hv2) hyd.out.1 hyd.out.2.1 hyd.out.2.2.1).mono ?_
      rintro e w39 ⟨n3, l3, v3, rfl, hz3, hv3, hb3⟩
      obtain rfl : n3 = false := hz3.pos hyd.out.2.2.2
      refine ⟨_, rfl, ?_⟩
      have S3 := hHeld.step hb3
      have hv4 := hH0.fresh hv3 (by rintro k (hk | hk); (exact hk); (exact Nat.le_trans hb2.size hk))
      obtain ⟨A3, c3, e3, k3, _⟩ := sv_form hv4
      subst e3
      refine hK.out _ _ (S3) (fun hHeld => ?_)
      clear hK K
      refine norm_ (a' := ?_) ?_ ?_
      rotate_left
      · show Act.put _ (some 37) _ = _
        simp only [Act.put, List.setIfInBounds_toArray, List.set_cons_zero, List.set_cons_succ, i64_w, i32_w]
        rfl
      refine last_ (i := 10) (N := none) #[true, true, true, true, true, true, true, true, true, true, true] rfl rfl (one_of HT_.out (by kernel_rfl)) (by decide) (fun K hK => ?_)
      obtain ⟨c0, c1, z0, z1⟩ := two_cells hHeld.br
      refine skip_ (w1 := ?_) (by rfl) rfl ?_ ?_
      rotate_left
      · go_simp
        rfl
      refine hK.out _ _ ?_
      clear hK K
      refine done_ (done_of HT_.out (by kernel_rfl)) ?_
      have S4 := hHeld.setr hv4
      clear c0 c1 z0 z1 hHeld S1 S2 S3 hv1 hv2 hv3 hv4 hH0 hb1 hb2 hb3 hyd HY hcell
      generalize (w39.setCell ⟨g8, 0, none⟩ (.bool false)).setCell ⟨g8, 1, none⟩ (.slice A3 l3.length c3) = w40 at S4 ⊢
      obtain ⟨R1, hR1⟩ : ∃ R1, RowKit.Hid (R1 = rd la z + 1000000 * R) := ⟨_, rfl⟩
      rw [← hR1.out] at hz3
      have hR1b : RowKit.Hid (0 ≤ R1 ∧ R1 < m * 1000000 ∧ Sm R1) := r1_facts hR1.out hO hz hzi.out m1.out
      go_wp2
      go_loopw [10, 11] (fun v10 v11 wr => ∃ lo hi : Int, v10 = .int .i64 lo ∧ v11 = .int .i64 hi ∧ SW w ⟨gA, gB, g4, g5, g6, gq, g8⟩ na (.slice (some ad) la.length ca) (.slice A1 lm.length cm) la.length ql (.slice A3 l3.length c3) l3 wr ∧ BInv m R1 lo hi) (fun v10 v11 _ => (intOf v11 - intOf v10).toNat)
      case atStart => exact ⟨0, 1000000, rfl, rfl, S4, b_start hR1b.out.1 hR1b.out.2.1⟩
      case round =>
        clear S4
        obtain ⟨lo, hi, rfl, rfl, hS, hB⟩ := hrel
        have b0 := hB.l0
        have b1 := hB.lh
        have b2 := hB.h1
        by_cases t : 1 < hi - lo
        · have hm0 : lo < (lo + hi) / 2 := by omega
          have hm1 : (lo + hi) / 2 < hi := by omega
          go_wp2
          obtain ⟨mid, hmid⟩ : ∃ mid, mid = (lo + hi) / 2 := ⟨_, rfl⟩
          rw [← hmid] at hm0 hm1 ⊢
          clear hmid
          refine start_ (n := 8) (S := SW w ⟨gA, gB, g4, g5, g6, gq, g8⟩ na (.slice (some ad) la.length ca) (.slice A1 lm.length cm) la.length ql (.slice A3 l3.length c3) l3) (ds := []) #[false, false, false, false, false, false, false, false] (by kernel_rfl) rfl rfl (hS.drew) (fun hHeld => ?_)
          refine with_tabW tab11 bits11 (fun HT_ HW_ => ?_)
          clear hS
          generalize wr.drew = w41 at hHeld ⊢
          have hH0 := hHeld
          refine take_ (i := 0) (N := some 46) (v := ?_) (a' := ?_) #[true, false, false, false, false, false, false, false] rfl rfl (take_ofW HT_.out HW_.out (by kernel_rfl)) (fun _ _ _ h => h) (Or.inl ⟨by rfl, ?_⟩) hHeld ?_ ?_
          rotate_left
          · intro w' hs
            have c0 : w'.cell? ⟨g6, 0, none⟩ = some (.bool false) := (two_cells hs.bm).1
            have c1 : w'.cell? ⟨g6, 1, none⟩ = some (.slice A1 lm.length cm) := (two_cells hs.bm).2.1
            clear hs
            go_simp
            with_reducible rfl
          rotate_left
          · simp only [Act.put, List.setIfInBounds_toArray, List.set_cons_zero, List.set_cons_succ, i64_w, i32_w]
            rfl
          refine take_ (i := 1) (N := some 47) (v := ?_) (a' := ?_) #[true, true, false, false, false, false, false, false] rfl rfl (take_ofW HT_.out HW_.out (by kernel_rfl)) (fun _ _ _ h => h) (Or.inl ⟨by rfl, ?_⟩) hHeld ?_ ?_
          rotate_left
          · intro w' hs
            clear hs
            go_simp
            with_reducible rfl
          rotate_left
          · simp only [Act.put, List.setIfInBounds_toArray, List.set_cons_zero, List.set_cons_succ, i64_w, i32_w]
            rfl
          refine take_ (i := 5) (N := some 51) (v := ?_) (a' := ?_) #[true, true, false, false, false, true, false, false] rfl rfl (take_ofW HT_.out HW_.out (by kernel_rfl)) (fun _ _ _ h => h) (Or.inl ⟨by rfl, ?_⟩) hHeld ?_ ?_
          rotate_left
          · intro w' hs
            have c0 : w'.cell? ⟨g8, 0, none⟩ = some (.bool false) := (two_cells hs.br).1
            have c1 : w'.cell? ⟨g8, 1, none⟩ = some (.slice A3 l3.length c3) := (two_cells hs.br).2.1
            clear hs
            go_simp
            with_reducible rfl
          rotate_left
          · simp only [Act.put, List.setIfInBounds_toArray, List.set_cons_zero, List.set_cons_succ, i64_w, i32_w]
            rfl
          refine one_ (i := 2) (N := some 48) #[true, true, true, false, false, true, false, false] rfl rfl (one_of HT_.out (by kernel_rfl)) (by decide) (fun K hK => ?_)
          refine Kd.R_lit_step (Kd.int .i64) (w0 := w41) w41.heap.size 3 ?hg (N := 48) ?hd (xs := ([mid] : List Int)) (inner := [.int .i64 (mid)]) (ok := fun _ => True) (okp := fun _ => True) ?hr ?hp (fun _ hk => hk) trivial (Below.refl _ _) (Nat.le_refl _) (by simp) ?_; (case hd => rfl); (case hg => rfl); (case hr => first | (go_simp; done) | (go_simp; rfl)); (case hp => exact (Reps.one (show Kd.M (Kd.int .i64) _ _ _ (mid) [.int .i64 (mid)] from rfl) (Reps.none _ _)))
          intro v5 w42 hv5 hb5 _ _
          have S5 := hHeld.step hb5
          obtain ⟨l5, hl5⟩ : ∃ l5, l5 = [mid] := ⟨_, rfl⟩
          rw [← hl5] at hv5
          have hz5 : IsZ false l5 mid := by rw [hl5]; exact isZ_digit (by omega) (by omega)
          clear hl5
          obtain ⟨A5, c5, e5⟩ := Kd.R_slice hv5
          subst e5
          refine hK.out _ _ (S5) (fun hHeld => ?_)
          clear hK K
          refine norm_ (a' := ?_) ?_ ?_
          rotate_left
          · show Act.put _ (some 48) _ = _
            simp only [Act.put, List.setIfInBounds_toArray, List.set_cons_zero, List.set_cons_succ, i64_w, i32_w]
            rfl
          refine take_ (i := 3) (N := some 49) (v := ?_) (a' := ?_) #[true, true, true, true, false, true, false, false] rfl rfl (take_ofW HT_.out HW_.out (by kernel_rfl)) (fun _ _ _ h => h) (Or.inl ⟨by rfl, ?_⟩) hHeld ?_ ?_
          rotate_left
          · intro w' hs
            clear hs
            go_simp
            with_reducible rfl
          rotate_left
          · simp only [Act.put, List.setIfInBounds_toArray, List.set_cons_zero, List.set_cons_succ, i64_w, i32_w]
            rfl
          refine one_ (i := 4) (N := some 50) #[true, true, true, true, true, true, false, false] rfl rfl (one_of HT_.out (by kernel_rfl)) (by decide) (fun K hK => ?_)
          refine goes_ Try.func5 (by kernel_rfl) rfl #[.agg #[.bool false, .slice A1 lm.length cm], .agg #[.bool false, .slice A5 l5.length c5]] (by rfl) rfl rfl (by (try simp only [List.map_toArray, List.map_cons, List.map_nil]); first | done | rfl) ?_
          refine (times_z false false lm l5 m mid A1 A5 cm c5 _ hm hz5 (m_small m0.out m1.out) (d_small (by omega) (by omega)) (Kd.C_below r1.out hHeld.below) k1.out (sv_read (sv_of_R hv5)).2.2 (sv_read (sv_of_R hv5)).2.1).mono ?_
          rintro e w43 ⟨n6, l6, v6, rfl, hz6, hv6, hb6⟩
          obtain ⟨A6, c6, e6, k6, rd6⟩ := sv_form hv6
          subst e6
          refine ⟨_, rfl, ?_⟩
          have S6 := hHeld.step hb6
          refine hK.out _ _ (S6) (fun hHeld => ?_)
          clear hK K
          refine norm_ (a' := ?_) ?_ ?_
          rotate_left
          · show Act.put _ (some 50) _ = _
            simp only [Act.put, List.setIfInBounds_toArray, List.set_cons_zero, List.set_cons_succ, i64_w, i32_w]
            rfl
          refine one_ (i := 6) (N := some 52) #[true, true, true, true, true, true, true, false] rfl rfl (one_of HT_.out (by kernel_rfl)) (by decide) (fun K hK => ?_)
          refine goes_ Try.func23 (by kernel_rfl) rfl #[.agg #[.bool n6, .slice A6 l6.length c6], .agg #[.bool false, .slice A3 l3.length c3]] (by rfl) rfl rfl (by (try simp only [List.map_toArray, List.map_cons, List.map_nil]); first | done | rfl) ?_
          refine (cmp_z n6 false l6 l3 (m * mid) R1 A6 A3 c6 c3 _ hz6 hz3 (p_small m0.out m1.out (by omega) (by omega)) hR1b.out.2.2 rd6 k6 (sv_read hHeld.r).2.2 (sv_read hHeld.r).2.1).mono ?_
          rintro e w44 ⟨rfl, hb7⟩
          obtain ⟨tc, htc⟩ : ∃ tc, tc = cmp (m * mid) R1 := ⟨_, rfl⟩
          rw [← htc]
          have HTC := Lib.hid htc
          clear htc
          refine ⟨_, rfl, ?_⟩
          have S7 := hHeld.step hb7
          refine hK.out _ _ (S7) (fun hHeld => ?_)
          clear hK K
          refine norm_ (a' := ?_) ?_ ?_
          rotate_left
          · show Act.put _ (some 52) _ = _
            simp only [Act.put, List.setIfInBounds_toArray, List.set_cons_zero, List.set_cons_succ, i64_w, i32_w]
            rfl
          refine take_ (i := 7) (N := some 53) (v := ?_) (a' := ?_) #[true, true, true, true, true, true, true, true] rfl rfl (take_ofW HT_.out HW_.out (by kernel_rfl)) (fun _ _ _ h => h) (Or.inl ⟨by rfl, ?_⟩) hHeld ?_ ?_
          rotate_left
          · intro w' hs
            clear hs
            go_simp
            with_reducible rfl
          rotate_left
          · simp only [Act.put, List.setIfInBounds_toArray, List.set_cons_zero, List.set_cons_succ, i64_w, i32_w]
            rfl
          refine done_ (done_of HT_.out (by kernel_rfl)) ?_
          clear S5 S6 S7 hH0 hb5 hb6 hb7 hv5 hv6 rd6 k6 hz5 hz6
          by_cases h5 : tc ≤ 0
          · go_wp2
            go_roundw
            case rel => exact ⟨mid, hi, rfl, rfl, hHeld, b_lo hB hm0 hm1 (by rw [← HTC.out]; exact h5)⟩
            case measure => simp [intOf]; omega
          · go_wp2
            go_roundw
            case rel => exact ⟨lo, mid, rfl, rfl, hHeld, b_hi hB hm0 hm1 (by rw [← HTC.out]; exact h5)⟩
            case measure => simp [intOf]; omega
        · have hqc : wr.cell? ⟨gq, z.toNat, none⟩ = some (.int .i64 (rdOf 0 ql z)) := (Kd.R_celln 0 hS.q z hz0 hz1).1
          have hqz : wr.frozen? ⟨gq, z.toNat, none⟩ = false := (Kd.R_celln 0 hS.q z hz0 hz1).2
          have S9 := hS.setq z lo
          go_wp2
          clear hqc hqz hS
          generalize wr.setCell ⟨gq, z.toNat, none⟩ (.int .i64 lo) = w50 at S9 ⊢
          refine start_ (n := 8) (S := SW w ⟨gA, gB, g4, g5, g6, gq, g8⟩ na (.slice (some ad) la.length ca) (.slice A1 lm.length cm) la.length (ql.set z.toNat lo) (.slice A3 l3.length c3) l3) (ds := [7]) #[false, false, false, false, false, false, false, false] (by kernel_rfl) rfl rfl (S9.drew) (fun hHeld => ?_)
          refine with_tabW tab15 bits15 (fun HT_ HW_ => ?_)
          clear S9
          generalize w50.drew = w51 at hHeld ⊢
          have hH0 := hHeld
          refine take_ (i := 0) (N := some 60) (v := ?_) (a' := ?_) #[true, false, false, false, false, false, false, false] rfl rfl (take_ofW HT_.out HW_.out (by kernel_rfl)) (fun _ _ _ h => h) (Or.inl ⟨by rfl, ?_⟩) hHeld ?_ ?_
          rotate_left
          · intro w' hs
            have c0 : w'.cell? ⟨g8, 0, none⟩ = some (.bool false) := (two_cells hs.br).1
            have c1 : w'.cell? ⟨g8, 1, none⟩ = some (.slice A3 l3.length c3) := (two_cells hs.br).2.1
            clear hs
            go_simp
            with_reducible rfl
          rotate_left
          · simp only [Act.put, List.setIfInBounds_toArray, List.set_cons_zero, List.set_cons_succ, i64_w, i32_w]
            rfl
          refine take_ (i := 1) (N := some 61) (v := ?_) (a' := ?_) #[true, true, false, false, false, false, false, false] rfl rfl (take_ofW HT_.out HW_.out (by kernel_rfl)) (fun _ _ _ h => h) (Or.inl ⟨by rfl, ?_⟩) hHeld ?_ ?_
          rotate_left
          · intro w' hs
            have c0 : w'.cell? ⟨g6, 0, none⟩ = some (.bool false) := (two_cells hs.bm).1
            have c1 : w'.cell? ⟨g6, 1, none⟩ = some (.slice A1 lm.length cm) := (two_cells hs.bm).2.1
            clear hs
            go_simp
            with_reducible rfl
          rotate_left
          · simp only [Act.put, List.setIfInBounds_toArray, List.set_cons_zero, List.set_cons_succ, i64_w, i32_w]
            rfl
          refine take_ (i := 2) (N := some 62) (v := ?_) (a' := ?_) #[true, true, true, false, false, false, false, false] rfl rfl (take_ofW HT_.out HW_.out (by kernel_rfl)) (fun _ _ _ h => h) (Or.inl ⟨by rfl, ?_⟩) hHeld ?_ ?_
          rotate_left
          · intro w' hs
            clear hs
            go_simp
            with_reducible rfl
          rotate_left
          · simp only [Act.put, List.setIfInBounds_toArray, List.set_cons_zero, List.set_cons_succ, i64_w, i32_w]
            rfl
          refine one_ (i := 3) (N := some 63) #[true, true, true, true, false, false, false, false] rfl rfl (one_of HT_.out (by kernel_rfl)) (by decide) (fun K hK => ?_)
          refine Kd.R_lit_step (Kd.int .i64) (w0 := w51) w51.heap.size 3 ?hg (N := 63) ?hd (xs := ([lo] : List Int)) (inner := [.int .i64 (lo)]) (ok := fun _ => True) (okp := fun _ => True) ?hr ?hp (fun _ hk => hk) trivial (Below.refl _ _) (Nat.le_refl _) (by simp) ?_; (case hd => rfl); (case hg => rfl); (case hr => first | (go_simp; done) | (go_simp; rfl)); (case hp => exact (Reps.one (show Kd.M (Kd.int .i64) _ _ _ (lo) [.int .i64 (lo)] from rfl) (Reps.none _ _)))
          intro v5 w52 hv5 hb5 _ _
          have S5 := hHeld.step hb5
          obtain ⟨l5, hl5⟩ : ∃ l5, l5 = [lo] := ⟨_, rfl⟩
          rw [← hl5] at hv5
          have hd5 : RowKit.Hid (Dig l5 ∧ l5.length < 1000 ∧ sv false l5 = lo) := lo_facts hl5 b0 (by omega)
          clear hl5
          obtain ⟨A5, c5, e5⟩ := Kd.R_slice hv5
          subst e5
          refine hK.out _ _ (S5) (fun hHeld => ?_)
          clear hK K
          refine norm_ (a' := ?_) ?_ ?_
          rotate_left
          · show Act.put _ (some 63) _ = _
            simp only [Act.put, List.setIfInBounds_toArray, List.set_cons_zero, List.set_cons_succ, i64_w, i32_w]
            rfl
          refine one_ (i := 4) (N := some 64) #[true, true, true, true, true, false, false, false] rfl rfl (one_of HT_.out (by kernel_rfl)) (by decide) (fun K hK => ?_)
          refine goes_ Try.func11 (by kernel_rfl) rfl #[.bool false, .slice A5 l5.length c5] (by rfl) rfl rfl (by (try simp only [List.map_toArray, List.map_cons, List.map_nil]); first | done | rfl) ?_
          refine (trim_z false _ A5 c5 l5 lo _ (sv_of_R hv5) hd5.out.1 hd5.out.2.1 hd5.out.2.2).mono ?_
          rintro e w53 ⟨n6, l6, v6, rfl, hz6, hv6, hb6⟩
          obtain ⟨A6, c6, e6, k6, rd6⟩ := sv_form hv6
          subst e6
          refine ⟨_, rfl, ?_⟩
          have S6 := hHeld.step hb6
          refine hK.out _ _ (S6) (fun hHeld => ?_)
          clear hK K
          refine norm_ (a' := ?_) ?_ ?_
          rotate_left
          · show Act.put _ (some 64) _ = _
            simp only [Act.put, List.setIfInBounds_toArray, List.set_cons_zero, List.set_cons_succ, i64_w, i32_w]
            rfl
          refine one_ (i := 5) (N := some 65) #[true, true, true, true, true, true, false, false] rfl rfl (one_of HT_.out (by kernel_rfl)) (by decide) (fun K hK => ?_)
          refine goes_ Try.func5 (by kernel_rfl) rfl #[.agg #[.bool false, .slice A1 lm.length cm], .agg #[.bool n6, .slice A6 l6.length c6]] (by rfl) rfl rfl (by (try simp only [List.map_toArray, List.map_cons, List.map_nil]); first | done | rfl) ?_
          refine (times_z false n6 lm l6 m lo A1 A6 cm c6 _ hm hz6 (m_small m0.out m1.out) (d_small b0 (by omega)) (Kd.C_below r1.out hHeld.below) k1.out rd6 k6).mono ?_
          rintro e w54 ⟨n7, l7, v7, rfl, hz7, hv7, hb7⟩
          obtain ⟨A7, c7, e7, k7, rd7⟩ := sv_form hv7
          subst e7
          refine ⟨_, rfl, ?_⟩
          have S7 := hHeld.step hb7
          refine hK.out _ _ (S7) (fun hHeld => ?_)
          clear hK K
          refine norm_ (a' := ?_) ?_ ?_
          rotate_left
          · show Act.put _ (some 65) _ = _
            simp only [Act.put, List.setIfInBounds_toArray, List.set_cons_zero, List.set_cons_succ, i64_w, i32_w]
            rfl
          refine one_ (i := 6) (N := some 66) #[true, true, true, true, true, true, true, false] rfl rfl (one_of HT_.out (by kernel_rfl)) (by decide) (fun K hK => ?_)
          refine goes_ Try.func30 (by kernel_rfl) rfl #[.agg #[.bool false, .slice A3 l3.length c3], .agg #[.bool n7, .slice A7 l7.length c7]] (by rfl) rfl rfl (by (try simp only [List.map_toArray, List.map_cons, List.map_nil]); first | done | rfl) ?_
          refine (less_z _ false n7 l3 l7 R1 (m * lo) A3 A7 c3 c7 _ hz3 hz7 hR1b.out.2.2 (p_small m0.out m1.out b0 (by omega)) (sv_read hHeld.r).2.2 (sv_read hHeld.r).2.1 hv7).mono ?_
          rintro e w55 ⟨n8, l8, v8, rfl, hz8, hv8, hb8⟩
          obtain rfl : n8 = false := hz8.pos (b_rest hB)
          have hv9 := hH0.fresh hv8 (by have q1 := hb5.size; have q2 := hb6.size; have q3 := hb7.size; rintro k (hk | hk) <;> omega)
          obtain ⟨A8, c8, e8, k8, _⟩ := sv_form hv9
          subst e8
          refine ⟨_, rfl, ?_⟩
          have S8 := hHeld.step hb8
          refine hK.out _ _ (S8) (fun hHeld => ?_)
          clear hK K
          refine norm_ (a' := ?_) ?_ ?_
          rotate_left
          · show Act.put _ (some 66) _ = _
            simp only [Act.put, List.setIfInBounds_toArray, List.set_cons_zero, List.set_cons_succ, i64_w, i32_w]
            rfl
          refine last_ (i := 7) (N := none) #[true, true, true, true, true, true, true, true] rfl rfl (one_of HT_.out (by kernel_rfl)) (by decide) (fun K hK => ?_)
          obtain ⟨c0, c1, z0, z1⟩ := two_cells hHeld.br
          refine skip_ (w1 := ?_) (by rfl) rfl ?_ ?_
          rotate_left
          · go_simp
            rfl
          refine hK.out _ _ ?_
          clear hK K
          refine done_ (done_of HT_.out (by kernel_rfl)) ?_
          have S10 := hHeld.setr hv9
          clear c0 c1 z0 z1 hHeld S5 S6 S7 S8 hH0 hb5 hb6 hb7 hb8 hv5 hv6 hv7 hv8 rd6 k6 rd7 k7 hd5 hz6 hz7 hv9
          generalize (w55.setCell ⟨g8, 0, none⟩ (.bool false)).setCell ⟨g8, 1, none⟩ (.slice A8 l8.length c8) = w60 at S10 ⊢
          go_wp2
          go_roundw
          case rel => exact ⟨i, _, _, l8, _, Q * 1000000 + lo, R1 - m * lo, rfl, (by have := hzi.out; show z - 1 = (i : Int) - 1; omega), S10, o_next hO hR1.out hzi.out hB (by omega), hz8⟩
          case measure => simp [intOf]; omega
end Go.Proofs.Ytmgcmknobnonhaa.Zed
