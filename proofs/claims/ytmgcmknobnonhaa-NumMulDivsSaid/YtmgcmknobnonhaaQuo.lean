/- The contracts of (spyref1.Z).Floor, (spyref1.Z).Ceil and spyref1.Quotient at this program: the quotient, rounded down or up, and whether it fits a machine word. Conditions: those of Split; the divisor of Quotient is a machine word. -/
import Derived.Test.YtmgcmknobnonhaaSplit
namespace Go.Proofs.Ytmgcmknobnonhaa.Zed
open Go.RowKit Go.Proofs.YtmgcmknobnonhaaW.PrintWords Go.Proofs.YtmgcmknobnonhaaW.PrintLast Go.Proofs.YtmgcmknobnonhaaW.PrintMore Go.Proofs.Ytmgcmknobnonhaa.PNumMulDivs Go.Proofs.Ytmgcmknobnonhaa.Dig
set_option linter.unusedVariables false
set_option linter.unusedSimpArgs false
theorem FB {w W1 W2 W3 : World} (L1 : Below w.heap.size w W1) (L2 : Below W1.heap.size W1 W2) (L3 : Below W2.heap.size W2 W3) : Below w.heap.size w W3 := below_step (below_step L1 L2) L3
theorem ne2 {a b : Nat} {W : World} (h : a < W.heap.size) (hg : b = W.heap.size) : a ≠ b := by omega
theorem ne3 {a b : Nat} {W V : World} (h : a < W.heap.size) (L : Below W.heap.size W V) (hg : b = V.heap.size) : a ≠ b := by have := L.size; omega
/-- The end of Floor: both results of Split lie in boxes of their own, the quotient in the result's box too. -/
theorem floor_end {w W1 W2 W3 W4 W5 W6 : World} {g4 g5 g6 : Nat} {nq nr : Bool} {vq vr : Value} {lq : List Int}
    (L1 : Below w.heap.size w W1) (L2 : Below W1.heap.size W1 W2)
    (hg4 : g4 = W2.heap.size) (b4 : W3.heap[g4]? = some (.cells #[.bool false, .slice none 0 0] 24 (0, 0))) (L3 : Below W2.heap.size W2 W3)
    (hv : SV W4 (fun k => W3.heap.size ≤ k) vq lq) (L4 : Below W3.heap.size W3 W4)
    (hg5 : g5 = W4.heap.size) (b5 : W5.heap[g5]? = some (.cells #[.bool false, .slice none 0 0] 24 (0, 0))) (L5 : Below W4.heap.size W4 W5)
    (hg6 : g6 = W5.heap.size) (L6 : Below W5.heap.size W5 W6) {w2 : World}
    (hw : w2 = (((((W6.setCell ⟨g5, 0, none⟩ (.bool nq)).setCell ⟨g5, 1, none⟩ vq).setCell ⟨g6, 0, none⟩ (.bool nr)).setCell ⟨g6, 1, none⟩ vr).setCell ⟨g4, 0, none⟩ (.bool nq)).setCell ⟨g4, 1, none⟩ vq) :
    w2.heap[g4]? = some (.cells #[.bool nq, vq] 24 (0, 0)) ∧ SV w2 (fun k => w.heap.size ≤ k) vq lq ∧ Below w.heap.size w w2 := by
  have s1 := L1.size
  have s2 := L2.size
  have s3 := blk_lt b4
  have s4 := L4.size
  have s5 := blk_lt b5
  have hb3 := FB L1 L2 L3
  have hb6 := below_step (below_step (below_step hb3 L4) L5) L6
  have B4 := blk_below (blk_below (blk_below b4 L4) L5) L6
  have hV : SV W6 (fun k => W3.heap.size ≤ k ∧ k ≠ g5 ∧ k ≠ g6) vq lq := by
    have h2 := Kd.V_below (Kd.V_below (Kd.V_bound hv) L5) L6
    exact Kd.V_mono h2 (fun k hk => ⟨hk.1, by have := hk.2; omega, by have := hk.2; omega⟩)
  subst hw
  refine ⟨?_, ?_, ?_⟩
  · exact blk_put (blk_put (blk_far (blk_far (blk_far (blk_far B4 (p := ⟨g5, 0, none⟩) (by simp; omega) _) (p := ⟨g5, 1, none⟩) (by simp; omega) _) (p := ⟨g6, 0, none⟩) (by simp; omega) _) (p := ⟨g6, 1, none⟩) (by simp; omega) _) 0 _ rfl) 1 _ rfl
  · refine Kd.V_mono (Kd.V_far (Kd.V_far (Kd.V_far (Kd.V_far (Kd.V_far (Kd.V_far hV (p := ⟨g5, 0, none⟩) (fun k hk => hk.2.1) _) (p := ⟨g5, 1, none⟩) (fun k hk => hk.2.1) _) (p := ⟨g6, 0, none⟩) (fun k hk => hk.2.2) _) (p := ⟨g6, 1, none⟩) (fun k hk => hk.2.2) _) (p := ⟨g4, 0, none⟩) (fun k hk => ?_) _) (p := ⟨g4, 1, none⟩) (fun k hk => ?_) _) (fun k hk => by have := hk.1; omega)
    · have := hk.1; show k ≠ g4; omega
    · have := hk.1; show k ≠ g4; omega
  · exact below_set (below_set (below_set (below_set (below_set (below_set hb6 (by omega)) (by omega)) (by omega)) (by omega)) (by omega)) (by omega)
theorem below_trans2 {w W1 W2 : World} (L1 : Below w.heap.size w W1) (L2 : Below W1.heap.size W1 W2) : Below w.heap.size w W2 := below_step L1 L2
set_option maxHeartbeats 4000000 in
set_option maxRecDepth 100000 in
theorem floor_z (na : Bool) (la lm : List Int) (x m : Int) (A0 A1 : Option Addr) (ca cm : Nat) (w : World) (hz : IsZ na la x) (hm : IsZ false lm m) (m0 : RowKit.Hid (0 < m)) (m1 : RowKit.Hid (m < 100000000000000000000)) (sx : Sm x) (r0 : RowKit.Hid (SC w A0 la)) (k0 : RowKit.Hid (la.length ≤ ca)) (r1 : RowKit.Hid (SC w A1 lm)) (k1 : RowKit.Hid (lm.length ≤ cm)) :
    Calls Try.prog 12 #[.agg #[.bool na, .slice A0 la.length ca], .agg #[.bool false, .slice A1 lm.length cm]] w (GivesZ w (fun k => w.heap.size ≤ k) (x / m)) := by
  have hu24 := Try.underlying24
  go_enter Try.func12, Try.ntmps12
  go_wp2_with (first
    | ((with_reducible refine gate_dst (N := 2) rfl ?_); refine box_event ?hg (N := 2) ?hd (cs := #[.bool na, .slice A0 la.length ca]) (t := 24) ?hr ?_; (case hd => rfl); (case hg => rfl); (case hr => first | (go_simp; done) | (go_simp; rfl)); intro gA hg W1 h hb; have HgA := Lib.hid hg; have BA := Lib.hid h; have L1 := Lib.hid hb; clear hg h hb)
    | ((with_reducible refine gate_dst (N := 3) rfl ?_); refine box_event ?hg (N := 3) ?hd (cs := #[.bool false, .slice A1 lm.length cm]) (t := 24) ?hr ?_; (case hd => rfl); (case hg => rfl); (case hr => first | (go_simp; done) | (go_simp; rfl)); intro gB hg W2 h hb; have HgB := Lib.hid hg; have BB := Lib.hid h; have L2 := Lib.hid hb; clear hg h hb)
    | ((with_reducible refine gate_dst (N := 4) rfl ?_); refine box_event ?hg (N := 4) ?hd (cs := #[.bool false, .slice none 0 0]) (t := 24) ?hr ?_; (case hd => rfl); (case hg => rfl); (case hr => first | (go_simp; done) | (go_simp; rfl)); intro g4 hg W3 h hb; have Hg4 := Lib.hid hg; have B4 := Lib.hid h; have L3 := Lib.hid hb; clear hg h hb; obtain ⟨cA0, cA1, _, _⟩ := two_cells (blk_below (blk_below BA.out L2.out) L3.out); obtain ⟨cB0, cB1, _, _⟩ := two_cells (blk_below BB.out L3.out))
    | (go_at_call 21; refine (split_z na la lm x m A0 A1 ca cm _ hz hm m0 m1 sx (Lib.hid (Kd.C_below r0.out (FB L1.out L2.out L3.out))) k0 (Lib.hid (Kd.C_below r1.out (FB L1.out L2.out L3.out))) k1).mono ?_; rintro e W4 ⟨nq, nr, lq, lr, vq, vr, rfl, hzq, hzr, hvq, hvr, hb⟩; have L4 := Lib.hid hb; obtain ⟨Aq, cq, eq_, kq, _⟩ := sv_form hvq; subst eq_; obtain ⟨Ar, cr, er, kr, _⟩ := sv_form hvr; subst er; clear hb cA0 cA1 cB0 cB1)
    | ((with_reducible refine gate_dst (N := 5) rfl ?_); refine box_event ?hg (N := 5) ?hd (cs := #[.bool false, .slice none 0 0]) (t := 24) ?hr ?_; (case hd => rfl); (case hg => rfl); (case hr => first | (go_simp; done) | (go_simp; rfl)); intro g5 hg W5 h hb; have Hg5 := Lib.hid hg; have B5 := Lib.hid h; have L5 := Lib.hid hb; clear hg h hb)
    | ((with_reducible refine gate_dst (N := 6) rfl ?_); refine box_event ?hg (N := 6) ?hd (cs := #[.bool false, .slice none 0 0]) (t := 24) ?hr ?_; (case hd => rfl); (case hg => rfl); (case hr => first | (go_simp; done) | (go_simp; rfl)); intro g6 hg W6 h hb; have Hg6 := Lib.hid hg; have B6 := Lib.hid h; have L6 := Lib.hid hb; clear hg h hb; obtain ⟨c50, c51, z50, z51⟩ := two_cells (blk_below B5.out L6.out); obtain ⟨c60, c61, z60, z61⟩ := two_cells B6.out; obtain ⟨c40, c41, z40, z41⟩ := two_cells (blk_below (blk_below (blk_below B4.out L4.out) L5.out) L6.out); have n45 : g4 ≠ g5 := ne3 (blk_lt B4.out) L4.out Hg5.out; have n46 : g4 ≠ g6 := ne3 (blk_lt B4.out) (below_trans2 L4.out L5.out) Hg6.out; have n56 : g5 ≠ g6 := ne2 (blk_lt B5.out) Hg6.out; have n54 := n45.symm; have n64 := n46.symm; have n65 := n56.symm))
  obtain ⟨bz, sz, hbel⟩ := floor_end L1.out L2.out Hg4.out B4.out L3.out hvq L4.out Hg5.out B5.out L5.out Hg6.out L6.out (nq := nq) (nr := nr) (vr := .slice Ar lr.length cr) rfl
  refine bodyPost_ret (results_cell_row rfl _ _ g4 24 #[.bool nq, .slice Aq lq.length cq] (0, 0) _ rfl bz Try.underlying24 rfl (by kernel_rfl)) rfl ?_
  exact ⟨_, _, _, rfl, hzq, sz, hbel⟩
end Go.Proofs.Ytmgcmknobnonhaa.Zed
namespace Go.Proofs.Ytmgcmknobnonhaa.Zed
open Go.RowKit Go.Proofs.YtmgcmknobnonhaaW.PrintWords Go.Proofs.YtmgcmknobnonhaaW.PrintLast Go.Proofs.YtmgcmknobnonhaaW.PrintMore Go.Proofs.Ytmgcmknobnonhaa.PNumMulDivs Go.Proofs.Ytmgcmknobnonhaa.Dig
set_option linter.unusedVariables false
set_option linter.unusedSimpArgs false
/-- What holds while Ceil runs. -/
structure CW (w : World) (gA gB g4 : Nat) (na : Bool) (va vb : Value) (P : Nat → Prop) (la : List Int) (A1 : Option Addr) (lm : List Int) (wr : World) : Prop where
  o4 : w.heap.size ≤ g4
  ba : wr.heap[gA]? = some (.cells #[.bool na, va] 24 (0, 0))
  bb : wr.heap[gB]? = some (.cells #[.bool false, vb] 24 (0, 0))
  b4 : wr.heap[g4]? = some (.cells #[.bool false, .slice none 0 0] 24 (0, 0))
  sv : SV wr P va la
  sm : SC wr A1 lm
  below : Below w.heap.size w wr
section
variable {w wr w1 : World} {gA gB g4 : Nat} {na : Bool} {va vb : Value} {P : Nat → Prop} {la lm : List Int} {A1 : Option Addr}
theorem CW.step (h : CW w gA gB g4 na va vb P la A1 lm wr) (hb : Below wr.heap.size wr w1) : CW w gA gB g4 na va vb P la A1 lm w1 :=
  ⟨h.o4, blk_below h.ba hb, blk_below h.bb hb, blk_below h.b4 hb, Kd.V_below h.sv hb, Kd.C_below h.sm hb, below_step h.below hb⟩
theorem CW.drew (h : CW w gA gB g4 na va vb P la A1 lm wr) : CW w gA gB g4 na va vb P la A1 lm wr.drew := h.step (below_drew1 (Below.refl _ _))
/-- The end: the result is stored. -/
theorem CW.last (h : CW w gA gB g4 na va vb P la A1 lm wr) {n : Bool} {v : Value} {l : List Int} {Q : Nat → Prop} (hv : SV wr Q v l) (hQ : ∀ k, Q k → g4 < k) {w2 : World} (hw : w2 = (wr.setCell ⟨g4, 0, none⟩ (.bool n)).setCell ⟨g4, 1, none⟩ v) :
    w2.heap[g4]? = some (.cells #[.bool n, v] 24 (0, 0)) ∧ SV w2 (fun k => w.heap.size ≤ k) v l ∧ Below w.heap.size w w2 := by
  have := h.o4
  subst hw
  refine ⟨blk_put (blk_put h.b4 0 _ rfl) 1 _ rfl, ?_, below_set (below_set h.below (by omega)) (by omega)⟩
  exact Kd.V_mono (Kd.V_far (Kd.V_far (Kd.V_mono hv hQ) (p := ⟨g4, 0, none⟩) (fun k hk => by show k ≠ g4; omega) _) (p := ⟨g4, 1, none⟩) (fun k hk => by show k ≠ g4; omega) _) (fun k hk => by omega)
end
theorem cw_start {w W1 W2 W3 : World} {gA gB g4 : Nat} {na : Bool} {A1 : Option Addr} {va vb : Value} {la lm : List Int} {P : Nat → Prop} (r0 : SV w P va la) (r1 : SC w A1 lm)
    (hgA : gA = w.heap.size) (bA : W1.heap[gA]? = some (.cells #[.bool na, va] 24 (0, 0))) (L1 : Below w.heap.size w W1)
    (hgB : gB = W1.heap.size) (bB : W2.heap[gB]? = some (.cells #[.bool false, vb] 24 (0, 0))) (L2 : Below W1.heap.size W1 W2)
    (hg4 : g4 = W2.heap.size) (b4 : W3.heap[g4]? = some (.cells #[.bool false, .slice none 0 0] 24 (0, 0))) (L3 : Below W2.heap.size W2 W3) :
    CW w gA gB g4 na va vb P la A1 lm W3 := by
  have s1 := L1.size
  have s2 := L2.size
  have hb := FB L1 L2 L3
  exact ⟨by omega, blk_below (blk_below bA L2) L3, blk_below bB L3, b4, Kd.V_below r0 hb, Kd.C_below r1 hb, hb⟩
theorem ceil_new {w4 w5 w6 : World} {g4 : Nat} (h : g4 < w4.heap.size) (L1 : Below w4.heap.size w4 w5) (L2 : Below w5.heap.size w5 w6) : ∀ k, (w5.heap.size ≤ k ∨ w6.heap.size ≤ k) → g4 < k := by
  have := L1.size
  have := L2.size
  intro k hk
  omega
theorem sm_neg {x : Int} (h : Sm x) : Sm (-x) := by obtain ⟨h1, h2⟩ := h; exact ⟨by omega, by omega⟩
theorem sm_div {x m : Int} (h : Sm x) (hm : 0 < m) : Sm (x / m) := by
  obtain ⟨h1, h2⟩ := h
  have e := Int.emod_add_mul_ediv x m
  have e1 := Int.emod_nonneg x (b := m) (by omega)
  have e2 := Int.emod_lt_of_pos x hm
  refine ⟨?_, ?_⟩
  · have h3 : (-1000000000000000000000000000000000000000000000000000000000000 + 1) / m ≤ x / m := Int.ediv_le_ediv hm (by omega)
    have h4 : (-1000000000000000000000000000000000000000000000000000000000000 + 1) ≤ (-1000000000000000000000000000000000000000000000000000000000000 + 1) / m := by
      rw [Int.le_ediv_iff_mul_le hm]
      omega
    omega
  · exact (Int.ediv_lt_iff_lt_mul hm).2 (by omega)
set_option maxHeartbeats 4000000 in
set_option maxRecDepth 100000 in
theorem ceil_z (na : Bool) (la lm : List Int) (x m : Int) (A0 A1 : Option Addr) (ca cm : Nat) (w : World) (P : Nat → Prop) (hz : IsZ na la x) (hm : IsZ false lm m) (m0 : RowKit.Hid (0 < m)) (m1 : RowKit.Hid (m < 100000000000000000000)) (sx : Sm x) (r0 : RowKit.Hid (SV w P (.slice A0 la.length ca) la)) (r1 : RowKit.Hid (SC w A1 lm)) (k1 : RowKit.Hid (lm.length ≤ cm)) :
    Calls Try.prog 13 #[.agg #[.bool na, .slice A0 la.length ca], .agg #[.bool false, .slice A1 lm.length cm]] w (GivesZ w (fun k => w.heap.size ≤ k) (-(-x / m))) := by
  have hu24 := Try.underlying24
  go_enter Try.func13, Try.ntmps13
  go_wp2_with (first
    | ((with_reducible refine gate_dst (N := 2) rfl ?_); refine box_event ?hg (N := 2) ?hd (cs := #[.bool na, .slice A0 la.length ca]) (t := 24) ?hr ?_; (case hd => rfl); (case hg => rfl); (case hr => first | (go_simp; done) | (go_simp; rfl)); intro gA hg W1 h hb; have HgA := Lib.hid hg; have BA := Lib.hid h; have L1 := Lib.hid hb; clear hg h hb)
    | ((with_reducible refine gate_dst (N := 3) rfl ?_); refine box_event ?hg (N := 3) ?hd (cs := #[.bool false, .slice A1 lm.length cm]) (t := 24) ?hr ?_; (case hd => rfl); (case hg => rfl); (case hr => first | (go_simp; done) | (go_simp; rfl)); intro gB hg W2 h hb; have HgB := Lib.hid hg; have BB := Lib.hid h; have L2 := Lib.hid hb; clear hg h hb)
    | ((with_reducible refine gate_dst (N := 4) rfl ?_); refine box_event ?hg (N := 4) ?hd (cs := #[.bool false, .slice none 0 0]) (t := 24) ?hr ?_; (case hd => rfl); (case hg => rfl); (case hr => first | (go_simp; done) | (go_simp; rfl)); intro g4 hg W3 h hb; have Hg4 := Lib.hid hg; have B4 := Lib.hid h; have L3 := Lib.hid hb; clear hg h hb))
  have hS := cw_start (va := .slice A0 la.length ca) (vb := .slice A1 lm.length cm) r0.out r1.out HgA.out BA.out L1.out HgB.out BB.out L2.out Hg4.out B4.out L3.out
  clear HgA BA L1 HgB BB L2 Hg4 B4 L3
  refine start_ (n := 6) (S := CW w gA gB g4 na (.slice A0 la.length ca) (.slice A1 lm.length cm) P la A1 lm) (ds := [5]) #[false, false, false, false, false, false] (by kernel_rfl) rfl rfl (hS.drew) (fun hHeld => ?_)
  generalize W3.drew = w4 at hHeld ⊢
  have hH0 := hHeld
  clear hS
  refine take_ (i := 0) (N := some 5) (v := ?_) (a' := ?_) #[true, false, false, false, false, false] rfl rfl (by kernel_rfl) (fun _ _ _ h => h) (Or.inl ⟨by rfl, ?_⟩) hHeld ?_ ?_
  rotate_left
  · intro w' hs
    have c0 : w'.cell? ⟨gA, 0, none⟩ = some (.bool na) := (two_cells hs.ba).1
    have c1 : w'.cell? ⟨gA, 1, none⟩ = some (.slice A0 la.length ca) := (two_cells hs.ba).2.1
    clear hs
    go_simp
    with_reducible rfl
  rotate_left
  · simp only [Act.put, List.setIfInBounds_toArray, List.set_cons_zero, List.set_cons_succ, i64_w, i32_w]
    rfl
  refine take_ (i := 2) (N := some 7) (v := ?_) (a' := ?_) #[true, false, true, false, false, false] rfl rfl (by kernel_rfl) (fun _ _ _ h => h) (Or.inl ⟨by rfl, ?_⟩) hHeld ?_ ?_
  rotate_left
  · intro w' hs
    have c0 : w'.cell? ⟨gB, 0, none⟩ = some (.bool false) := (two_cells hs.bb).1
    have c1 : w'.cell? ⟨gB, 1, none⟩ = some (.slice A1 lm.length cm) := (two_cells hs.bb).2.1
    clear hs
    go_simp
    with_reducible rfl
  rotate_left
  · simp only [Act.put, List.setIfInBounds_toArray, List.set_cons_zero, List.set_cons_succ, i64_w, i32_w]
    rfl
  refine one_ (i := 1) (N := some 6) #[true, true, true, false, false, false] rfl rfl (by kernel_rfl) (by decide) (fun K hK => ?_)
  refine goes_ Try.func22 (by kernel_rfl) rfl #[.agg #[.bool na, .slice A0 la.length ca]] (by rfl) rfl rfl (by (try simp only [List.map_toArray, List.map_cons, List.map_nil]); first | done | rfl) ?_
  refine (minus_z P na la x A0 ca _ hz sx hHeld.sv).mono ?_
  rintro e w5 ⟨n1, l1, v1, rfl, hz1, hv1, hb1⟩
  obtain ⟨A2, c2, e2, k2, rd2⟩ := sv_form hv1
  subst e2
  refine ⟨_, rfl, ?_⟩
  have S1 := hHeld.step hb1
  refine hK.out _ _ (S1) (fun hHeld => ?_)
  clear hK K
  refine norm_ (a' := ?_) ?_ ?_
  rotate_left
  · show Act.put _ (some 6) _ = _
    simp only [Act.put, List.setIfInBounds_toArray, List.set_cons_zero, List.set_cons_succ, i64_w, i32_w]
    rfl
  refine one_ (i := 3) (N := some 8) #[true, true, true, true, false, false] rfl rfl (by kernel_rfl) (by decide) (fun K hK => ?_)
  refine goes_ Try.func12 (by kernel_rfl) rfl #[.agg #[.bool n1, .slice A2 l1.length c2], .agg #[.bool false, .slice A1 lm.length cm]] (by rfl) rfl rfl (by (try simp only [List.map_toArray, List.map_cons, List.map_nil]); first | done | rfl) ?_
  refine (floor_z n1 l1 lm (-x) m A2 A1 c2 cm _ hz1 hm m0 m1 (sm_neg sx) (Lib.hid rd2) (Lib.hid k2) (Lib.hid hHeld.sm) k1).mono ?_
  rintro e w6 ⟨n2, l2, v2, rfl, hz2, hv2, hb2⟩
  obtain ⟨A3, c3, e3, k3, rd3⟩ := sv_form hv2
  subst e3
  refine ⟨_, rfl, ?_⟩
  have S2 := hHeld.step hb2
  refine hK.out _ _ (S2) (fun hHeld => ?_)
  clear hK K
  refine norm_ (a' := ?_) ?_ ?_
  rotate_left
  · show Act.put _ (some 8) _ = _
    simp only [Act.put, List.setIfInBounds_toArray, List.set_cons_zero, List.set_cons_succ, i64_w, i32_w]
    rfl
  refine one_ (i := 4) (N := some 9) #[true, true, true, true, true, false] rfl rfl (by kernel_rfl) (by decide) (fun K hK => ?_)
  refine goes_ Try.func22 (by kernel_rfl) rfl #[.agg #[.bool n2, .slice A3 l2.length c3]] (by rfl) rfl rfl (by (try simp only [List.map_toArray, List.map_cons, List.map_nil]); first | done | rfl) ?_
  refine (minus_z _ n2 l2 (-x / m) A3 c3 _ hz2 (sm_div (sm_neg sx) m0.out) hv2).mono ?_
  rintro e w7 ⟨n3, l3, v3, rfl, hz3, hv3, hb3⟩
  obtain ⟨A4, c4, e4, k4, rd4⟩ := sv_form hv3
  subst e4
  refine ⟨_, rfl, ?_⟩
  have S3 := hHeld.step hb3
  refine hK.out _ _ (S3) (fun hHeld => ?_)
  clear hK K
  refine norm_ (a' := ?_) ?_ ?_
  rotate_left
  · show Act.put _ (some 9) _ = _
    simp only [Act.put, List.setIfInBounds_toArray, List.set_cons_zero, List.set_cons_succ, i64_w, i32_w]
    rfl
  obtain ⟨c0, c1, z0, z1⟩ := two_cells hHeld.b4
  refine last_ (i := 5) (N := none) #[true, true, true, true, true, true] rfl rfl (by kernel_rfl) (by decide) (fun K hK => ?_)
  refine skip_ (w1 := ?_) (by rfl) rfl ?_ ?_
  rotate_left
  · go_simp
    rfl
  refine hK.out _ _ ?_
  clear hK K
  refine done_ (by kernel_rfl) ?_
  obtain ⟨bz, sz, hbel⟩ := hHeld.last (n := n3) hv3 (ceil_new (blk_lt hH0.b4) hb1 hb2) rfl
  clear c0 c1 z0 z1
  go_wp2
  refine bodyPost_ret (results_cell_row rfl _ _ g4 24 #[.bool n3, .slice A4 l3.length c4] (0, 0) _ rfl bz Try.underlying24 rfl (by kernel_rfl)) rfl ?_
  exact ⟨_, _, _, rfl, hz3, sz, hbel⟩
end Go.Proofs.Ytmgcmknobnonhaa.Zed
namespace Go.Proofs.Ytmgcmknobnonhaa.Zed
open Go.RowKit Go.Proofs.YtmgcmknobnonhaaW.PrintWords Go.Proofs.YtmgcmknobnonhaaW.PrintLast Go.Proofs.YtmgcmknobnonhaaW.PrintMore Go.Proofs.Ytmgcmknobnonhaa.PNumMulDivs Go.Proofs.Ytmgcmknobnonhaa.Dig
set_option linter.unusedVariables false
set_option linter.unusedSimpArgs false
/-- What holds while the quotient runs. -/
structure QW (w : World) (gA : Nat) (na : Bool) (va : Value) (la : List Int) (wr : World) : Prop where
  ba : wr.heap[gA]? = some (.cells #[.bool na, va] 24 (0, 0))
  sv : SV wr (fun k => k < w.heap.size) va la
  below : Below w.heap.size w wr
/-- And the quotient's box. -/
structure QV (w : World) (gA g8 : Nat) (na : Bool) (va : Value) (la : List Int) (n : Bool) (v : Value) (l : List Int) (wr : World) : Prop where
  q : QW w gA na va la wr
  o8 : w.heap.size ≤ g8
  ne : gA ≠ g8
  b8 : wr.heap[g8]? = some (.cells #[.bool n, v] 24 (0, 0))
  s8 : SV wr (fun k => k ≠ g8) v l
section
variable {w wr w1 : World} {gA g8 : Nat} {na n : Bool} {va v : Value} {la l : List Int}
theorem QW.step (h : QW w gA na va la wr) (hb : Below wr.heap.size wr w1) : QW w gA na va la w1 := ⟨blk_below h.ba hb, Kd.V_below h.sv hb, below_step h.below hb⟩
theorem QW.drew (h : QW w gA na va la wr) : QW w gA na va la wr.drew := h.step (below_drew1 (Below.refl _ _))
theorem QV.step (h : QV w gA g8 na va la n v l wr) (hb : Below wr.heap.size wr w1) : QV w gA g8 na va la n v l w1 := ⟨h.q.step hb, h.o8, h.ne, blk_below h.b8 hb, Kd.V_below h.s8 hb⟩
theorem QV.drew (h : QV w gA g8 na va la n v l wr) : QV w gA g8 na va la n v l wr.drew := h.step (below_drew1 (Below.refl _ _))
/-- A new quotient is stored. -/
theorem QV.put (h : QV w gA g8 na va la n v l wr) {n' : Bool} {v' : Value} {l' : List Int} (hv : SV wr (fun k => k ≠ g8) v' l') {w2 : World} (hw : w2 = (wr.setCell ⟨g8, 0, none⟩ (.bool n')).setCell ⟨g8, 1, none⟩ v') : QV w gA g8 na va la n' v' l' w2 := by
  have h1 := h.ne
  have h2 := h.o8
  subst hw
  refine ⟨⟨blk_far (blk_far h.q.ba (p := ⟨g8, 0, none⟩) h1 _) (p := ⟨g8, 1, none⟩) h1 _, Kd.V_far (Kd.V_far h.q.sv (p := ⟨g8, 0, none⟩) (fun k hk => by show k ≠ g8; omega) _) (p := ⟨g8, 1, none⟩) (fun k hk => by show k ≠ g8; omega) _, below_set (below_set h.q.below (by omega)) (by omega)⟩, h2, h1, blk_put (blk_put h.b8 0 _ rfl) 1 _ rfl, ?_⟩
  exact Kd.V_far (Kd.V_far hv (p := ⟨g8, 0, none⟩) (fun k hk => hk) _) (p := ⟨g8, 1, none⟩) (fun k hk => hk) _
/-- The box is new. -/
theorem QW.box (h : QW w gA na va la wr) (hg : g8 = wr.heap.size) (hb : Below wr.heap.size wr w1) (hbox : w1.heap[g8]? = some (.cells #[.bool false, .slice none 0 0] 24 (0, 0))) : QV w gA g8 na va la false (.slice none 0 0) [] w1 :=
  ⟨h.step hb, by have := h.below.size; omega, by have := blk_lt h.ba; omega, hbox, Kd.V_nil _ _ _ _ _⟩
/-- What is new since the box was made lies apart from it. -/
theorem QV.off (h : QV w gA g8 na va la n v l wr) {w1 w2 : World} (hb : Below wr.heap.size wr w1) {v' : Value} {l' : List Int} (hv : SV w2 (fun k => w1.heap.size ≤ k) v' l') : SV w2 (fun k => k ≠ g8) v' l' :=
  Kd.V_mono hv (fun k hk => by have := blk_lt h.b8; have := hb.size; show k ≠ g8; omega)
end
theorem off_new {w2 w3 : World} {g8 : Nat} {Q : Nat → Prop} {v' : Value} {l' : List Int} (hv : SV w2 Q v' l') (hg : g8 = w2.heap.size) (hb : Below w2.heap.size w2 w3) : SV w3 (fun k => k ≠ g8) v' l' :=
  Kd.V_mono (Kd.V_below (Kd.V_bound hv) hb) (fun k hk => by have := hk.2; show k ≠ g8; omega)
theorem qw_start {w W1 : World} {gA : Nat} {na : Bool} {va : Value} {la : List Int} {P : Nat → Prop} (r0 : SV w P va la) (bA : W1.heap[gA]? = some (.cells #[.bool na, va] 24 (0, 0))) (L1 : Below w.heap.size w W1) : QW w gA na va la W1 :=
  ⟨bA, Kd.V_mono (Kd.V_below (Kd.V_bound r0) L1) (fun k hk => hk.2), L1⟩
/-- What the quotient hands back. -/
def QPost (w : World) (v e0 : Int) (e : Ending) (w' : World) : Prop := e = .returned (.tuple #[.int .i64 v, .int .i64 e0]) ∧ Below w.heap.size w w'
theorem word_lt {d : Int} (h : d < 9223372036854775808) : d < 100000000000000000000 := Int.lt_trans h (by decide)
set_option maxHeartbeats 4000000 in
set_option maxRecDepth 100000 in
theorem quo_low (up : Bool) (na : Bool) (la : List Int) (d : Int) (A0 : Option Addr) (ca : Nat) (w : World) (t : d < 1) :
    Calls Try.prog 6 #[.agg #[.bool na, .slice A0 la.length ca], .int .i64 d, .bool up] w (QPost w 0 1) := by
  have hu24 := Try.underlying24
  go_enter Try.func6, Try.ntmps6
  go_wp2_with (first
    | ((with_reducible refine gate_dst (N := 3) rfl ?_); refine box_event ?hg (N := 3) ?hd (cs := #[.bool na, .slice A0 la.length ca]) (t := 24) ?hr ?_; (case hd => rfl); (case hg => rfl); (case hr => first | (go_simp; done) | (go_simp; rfl)); intro gA hg W1 h hb; have HgA := Lib.hid hg; have BA := Lib.hid h; have L1 := Lib.hid hb; clear hg h hb))
  go_ret2
  exact ⟨rfl, L1.out⟩
set_option maxHeartbeats 4000000 in
set_option maxRecDepth 100000 in
theorem quo_any (up na : Bool) (la : List Int) (x d q v0 e0 : Int) (A0 : Option Addr) (ca : Nat) (w : World) (P : Nat → Prop) (t : ¬ d < 1) (d0 : RowKit.Hid (0 < d)) (d1 : RowKit.Hid (d < 9223372036854775808)) (hz : IsZ na la x) (sx : Sm x) (r0 : RowKit.Hid (SV w P (.slice A0 la.length ca) la)) (hq0 : RowKit.Hid (up = false → x / d = q)) (hq1 : RowKit.Hid (up = true → -(-x / d) = q)) (hv0 : RowKit.Hid (v0 = if fits q = true then q else 0)) (he0 : RowKit.Hid (e0 = if fits q = true then 0 else 2)) :
    Calls Try.prog 6 #[.agg #[.bool na, .slice A0 la.length ca], .int .i64 d, .bool up] w (QPost w v0 e0) := by
  have hu24 := Try.underlying24
  go_enter Try.func6, Try.ntmps6
  go_wp2_with (first
    | ((with_reducible refine gate_dst (N := 3) rfl ?_); refine box_event ?hg (N := 3) ?hd (cs := #[.bool na, .slice A0 la.length ca]) (t := 24) ?hr ?_; (case hd => rfl); (case hg => rfl); (case hr => first | (go_simp; done) | (go_simp; rfl)); intro gA hg W1 h hb; have HgA := Lib.hid hg; have BA := Lib.hid h; have L1 := Lib.hid hb; clear hg h hb))
  have hS := qw_start r0.out BA.out L1.out
  clear HgA BA L1
  refine start_ (n := 6) (S := QW w gA na (.slice A0 la.length ca) la) (ds := []) #[false, false, false, false, false, false] (by kernel_rfl) rfl rfl (hS.drew) (fun hHeld => ?_)
  clear hS
  generalize W1.drew = w4 at hHeld ⊢
  refine take_ (i := 0) (N := some 13) (v := ?_) (a' := ?_) #[true, false, false, false, false, false] rfl rfl (by kernel_rfl) (fun _ _ _ h => h) (Or.inl ⟨by rfl, ?_⟩) hHeld ?_ ?_
  rotate_left
  · intro w' hs
    have c0 : w'.cell? ⟨gA, 0, none⟩ = some (.bool na) := (two_cells hs.ba).1
    have c1 : w'.cell? ⟨gA, 1, none⟩ = some (.slice A0 la.length ca) := (two_cells hs.ba).2.1
    clear hs
    go_simp
    with_reducible rfl
  rotate_left
  · simp only [Act.put, List.setIfInBounds_toArray, List.set_cons_zero, List.set_cons_succ, i64_w, i32_w]
    rfl
  refine take_ (i := 1) (N := some 14) (v := ?_) (a' := ?_) #[true, true, false, false, false, false] rfl rfl (by kernel_rfl) (fun _ _ _ h => h) (Or.inl ⟨by rfl, ?_⟩) hHeld ?_ ?_
  rotate_left
  · intro w' hs
    clear hs
    go_simp
    with_reducible rfl
  rotate_left
  · simp only [Act.put, List.setIfInBounds_toArray, List.set_cons_zero, List.set_cons_succ, i64_w, i32_w]
    rfl
  refine join_ (σ := Value × Value × Nat) 1 #[true, true, true, true, true, false] (fun s => [(15, s.1), (16, s.2.1), (8, .pointer (some ⟨s.2.2, 0, none⟩))]) (fun s w' => ∃ (n : Bool) (v : Value) (l : List Int), s.2.1 = .agg #[.bool n, v] ∧ QV w gA s.2.2 na (.slice A0 la.length ca) la false (.slice none 0 0) [] w' ∧ SV w' (fun k => k ≠ s.2.2) v l ∧ IsZ n l (x / d)) ?_ ?_
  rotate_left
  · intro hCont
    refine two_ (i := 2) (j := 4) (Ni := some 15) (Nj := some 8) #[true, true, true, false, false, false] #[true, true, false, false, true, false] rfl rfl rfl rfl (by kernel_rfl) (by decide) (by decide) (fun K hK => ?_) (fun K hK => ?_)
    · skip
      refine goes_ Try.func4 (by kernel_rfl) rfl #[.int .i64 d] (by rfl) rfl rfl (by (try simp only [List.map_toArray, List.map_cons, List.map_nil]); first | done | rfl) ?_
      refine (i_z d _ (by omega) d1.out).mono ?_
      rintro e w5 ⟨n1, l1, v1, rfl, hz1, hv1, hb1⟩
      obtain ⟨A1, c1, e1, k1, rd1⟩ := sv_form hv1
      subst e1
      refine ⟨_, rfl, ?_⟩
      obtain rfl : n1 = false := hz1.pos (by omega)
      have S1 := hHeld.step hb1
      refine hK.out _ _ (S1) (fun hHeld => ?_)
      clear hK K
      refine norm_ (a' := ?_) ?_ ?_
      rotate_left
      · show Act.put _ (some 15) _ = _
        simp only [Act.put, List.setIfInBounds_toArray, List.set_cons_zero, List.set_cons_succ, i64_w, i32_w]
        rfl
      refine two_ (i := 3) (j := 4) (Ni := some 16) (Nj := some 8) #[true, true, true, true, false, false] #[true, true, true, false, true, false] rfl rfl rfl rfl (by kernel_rfl) (by decide) (by decide) (fun K hK => ?_) (fun K hK => ?_)
      · skip
        refine goes_ Try.func12 (by kernel_rfl) rfl #[.agg #[.bool na, .slice A0 la.length ca], .agg #[.bool false, .slice A1 l1.length c1]] (by rfl) rfl rfl (by (try simp only [List.map_toArray, List.map_cons, List.map_nil]); first | done | rfl) ?_
        refine (floor_z na la l1 x d A0 A1 ca c1 _ hz hz1 d0 (Lib.hid (word_lt d1.out)) sx (Lib.hid (sv_read hHeld.sv).2.2) (Lib.hid (sv_read hHeld.sv).2.1) (Lib.hid rd1) (Lib.hid k1)).mono ?_
        rintro e w6 ⟨n2, l2, v2, rfl, hz2, hv2, hb2⟩
        refine ⟨_, rfl, ?_⟩
        have S2 := hHeld.step hb2
        refine hK.out _ _ (S2) (fun hHeld => ?_)
        clear hK K
        refine norm_ (a' := ?_) ?_ ?_
        rotate_left
        · show Act.put _ (some 16) _ = _
          simp only [Act.put, List.setIfInBounds_toArray, List.set_cons_zero, List.set_cons_succ, i64_w, i32_w]
          rfl
        refine one_ (i := 4) (N := some 8) #[true, true, true, true, true, false] rfl rfl (by kernel_rfl) (by decide) (fun K hK => ?_)
        refine box_step ?hg (N := 8) ?hd (cs := #[.bool false, .slice none 0 0]) (t := 24) ?hr ?_; (case hd => rfl); (case hg => rfl); (case hr => first | (go_simp; done) | (go_simp; rfl))
        intro g8 hg w7 hbox hb3
        have S3 := hHeld.step hb3
        have Q3 := hHeld.box hg hb3 hbox
        refine hK.out _ _ (S3) (fun hHeld => ?_)
        clear hK K
        refine norm_ (a' := ?_) ?_ ?_
        rotate_left
        · show Act.put _ (some 8) _ = _
          simp only [Act.put, List.setIfInBounds_toArray, List.set_cons_zero, List.set_cons_succ, i64_w, i32_w]
          rfl
        exact norm_ (by simp only [putAll, Act.put, List.setIfInBounds_toArray, List.set_cons_zero, List.set_cons_succ]) (hCont (.agg #[.bool false, .slice A1 l1.length c1], .agg #[.bool n2, v2], g8) _ ⟨n2, v2, l2, rfl, Q3, off_new hv2 hg hb3, hz2⟩)
      · skip
        refine box_step ?hg (N := 8) ?hd (cs := #[.bool false, .slice none 0 0]) (t := 24) ?hr ?_; (case hd => rfl); (case hg => rfl); (case hr => first | (go_simp; done) | (go_simp; rfl))
        intro g8 hg w6 hbox hb3
        have S3 := hHeld.step hb3
        have Q3 := hHeld.box hg hb3 hbox
        refine hK.out _ _ (S3) (fun hHeld => ?_)
        clear hK K
        refine norm_ (a' := ?_) ?_ ?_
        rotate_left
        · show Act.put _ (some 8) _ = _
          simp only [Act.put, List.setIfInBounds_toArray, List.set_cons_zero, List.set_cons_succ, i64_w, i32_w]
          rfl
        refine one_ (i := 3) (N := some 16) #[true, true, true, true, true, false] rfl rfl (by kernel_rfl) (by decide) (fun K hK => ?_)
        refine goes_ Try.func12 (by kernel_rfl) rfl #[.agg #[.bool na, .slice A0 la.length ca], .agg #[.bool false, .slice A1 l1.length c1]] (by rfl) rfl rfl (by (try simp only [List.map_toArray, List.map_cons, List.map_nil]); first | done | rfl) ?_
        refine (floor_z na la l1 x d A0 A1 ca c1 _ hz hz1 d0 (Lib.hid (word_lt d1.out)) sx (Lib.hid (sv_read hHeld.sv).2.2) (Lib.hid (sv_read hHeld.sv).2.1) (Lib.hid (Kd.C_below rd1 hb3)) (Lib.hid k1)).mono ?_
        rintro e w7 ⟨n2, l2, v2, rfl, hz2, hv2, hb2⟩
        refine ⟨_, rfl, ?_⟩
        have S2 := hHeld.step hb2
        refine hK.out _ _ (S2) (fun hHeld => ?_)
        clear hK K
        refine norm_ (a' := ?_) ?_ ?_
        rotate_left
        · show Act.put _ (some 16) _ = _
          simp only [Act.put, List.setIfInBounds_toArray, List.set_cons_zero, List.set_cons_succ, i64_w, i32_w]
          rfl
        exact norm_ (by simp only [putAll, Act.put, List.setIfInBounds_toArray, List.set_cons_zero, List.set_cons_succ]) (hCont (.agg #[.bool false, .slice A1 l1.length c1], .agg #[.bool n2, v2], g8) _ ⟨n2, v2, l2, rfl, Q3.step hb2, Q3.off (Below.refl _ _) hv2, hz2⟩)
    · skip
      refine box_step ?hg (N := 8) ?hd (cs := #[.bool false, .slice none 0 0]) (t := 24) ?hr ?_; (case hd => rfl); (case hg => rfl); (case hr => first | (go_simp; done) | (go_simp; rfl))
      intro g8 hg w5 hbox hb3
      have S3 := hHeld.step hb3
      have Q3 := hHeld.box hg hb3 hbox
      refine hK.out _ _ (S3) (fun hHeld => ?_)
      clear hK K
      refine norm_ (a' := ?_) ?_ ?_
      rotate_left
      · show Act.put _ (some 8) _ = _
        simp only [Act.put, List.setIfInBounds_toArray, List.set_cons_zero, List.set_cons_succ, i64_w, i32_w]
        rfl
      refine one_ (i := 2) (N := some 15) #[true, true, true, false, true, false] rfl rfl (by kernel_rfl) (by decide) (fun K hK => ?_)
      refine goes_ Try.func4 (by kernel_rfl) rfl #[.int .i64 d] (by rfl) rfl rfl (by (try simp only [List.map_toArray, List.map_cons, List.map_nil]); first | done | rfl) ?_
      refine (i_z d _ (by omega) d1.out).mono ?_
      rintro e w6 ⟨n1, l1, v1, rfl, hz1, hv1, hb1⟩
      obtain ⟨A1, c1, e1, k1, rd1⟩ := sv_form hv1
      subst e1
      refine ⟨_, rfl, ?_⟩
      obtain rfl : n1 = false := hz1.pos (by omega)
      have S1 := hHeld.step hb1
      refine hK.out _ _ (S1) (fun hHeld => ?_)
      clear hK K
      refine norm_ (a' := ?_) ?_ ?_
      rotate_left
      · show Act.put _ (some 15) _ = _
        simp only [Act.put, List.setIfInBounds_toArray, List.set_cons_zero, List.set_cons_succ, i64_w, i32_w]
        rfl
      refine one_ (i := 3) (N := some 16) #[true, true, true, true, true, false] rfl rfl (by kernel_rfl) (by decide) (fun K hK => ?_)
      refine goes_ Try.func12 (by kernel_rfl) rfl #[.agg #[.bool na, .slice A0 la.length ca], .agg #[.bool false, .slice A1 l1.length c1]] (by rfl) rfl rfl (by (try simp only [List.map_toArray, List.map_cons, List.map_nil]); first | done | rfl) ?_
      refine (floor_z na la l1 x d A0 A1 ca c1 _ hz hz1 d0 (Lib.hid (word_lt d1.out)) sx (Lib.hid (sv_read hHeld.sv).2.2) (Lib.hid (sv_read hHeld.sv).2.1) (Lib.hid rd1) (Lib.hid k1)).mono ?_
      rintro e w7 ⟨n2, l2, v2, rfl, hz2, hv2, hb2⟩
      refine ⟨_, rfl, ?_⟩
      have S2 := hHeld.step hb2
      refine hK.out _ _ (S2) (fun hHeld => ?_)
      clear hK K
      refine norm_ (a' := ?_) ?_ ?_
      rotate_left
      · show Act.put _ (some 16) _ = _
        simp only [Act.put, List.setIfInBounds_toArray, List.set_cons_zero, List.set_cons_succ, i64_w, i32_w]
        rfl
      exact norm_ (by simp only [putAll, Act.put, List.setIfInBounds_toArray, List.set_cons_zero, List.set_cons_succ]) (hCont (.agg #[.bool false, .slice A1 l1.length c1], .agg #[.bool n2, v2], g8) _ ⟨n2, v2, l2, rfl, (Q3.step hb1).step hb2, Q3.off hb1 hv2, hz2⟩)
  rintro ⟨u1, u2, g8⟩ w8 ⟨n2, v2, l2, e2, HQ, hv2, hz2⟩
  have e2' : u2 = .agg #[.bool n2, v2] := e2
  subst e2'
  clear e2
  have HV : SV w8 (fun k => k ≠ g8) v2 l2 := hv2
  have HW : QV w gA g8 na (.slice A0 la.length ca) la false (.slice none 0 0) [] w8 := HQ
  clear hv2 HQ hHeld
  have hHeld := HW.q
  obtain ⟨A2, c2, e2, k2, rd2⟩ := sv_form HV
  subst e2
  refine norm_ (a' := ?_) ?_ ?_
  rotate_left
  · simp only [putAll, Act.put, List.setIfInBounds_toArray, List.set_cons_zero, List.set_cons_succ]
    rfl
  obtain ⟨c0, c1, z0, z1⟩ := two_cells HW.b8
  have n1 := HW.ne
  have n2_ := n1.symm
  refine one_ (i := 5) (N := none) #[true, true, true, true, true, true] rfl rfl (by kernel_rfl) (by decide) (fun K hK => ?_)
  refine skip_ (w1 := ?_) (by rfl) rfl ?_ ?_
  rotate_left
  · go_simp
    rfl
  have Q4 := HW.put (n' := n2) HV rfl
  refine hK.out _ _ Q4.q (fun hHeld => ?_)
  clear hK K
  refine done_ (by kernel_rfl) ?_
  clear c0 c1 z0 z1 HW HV hHeld
  generalize (w8.setCell ⟨g8, 0, none⟩ (.bool n2)).setCell ⟨g8, 1, none⟩ (.slice A2 l2.length c2) = w9 at Q4 ⊢
  cases up with
  | false =>
    have HQ0 := Lib.hid (hq0.out rfl)
    clear hq0 hq1
    obtain ⟨c0, c1, z0, z1⟩ := two_cells Q4.b8
    have SMx := Lib.hid (sm_div sx d0.out)
    obtain ⟨fb, hfb⟩ : ∃ fb, fb = fits (x / d) := ⟨_, rfl⟩
    have HFB := Lib.hid hfb
    clear hfb
    have HQx := Q4
    cases fb with
    | false =>
      go_wp2_with (first
        | (go_at_call 14; refine (small_z n2 l2 _ A2 c2 _ hz2 SMx.out (sv_read HQx.s8).2.2 (sv_read HQx.s8).2.1).mono ?_; rintro e w20 ⟨rfl, hb20⟩; rw [← HFB.out]; have HB20 := Lib.hid (below_step HQx.q.below hb20); clear hb20 c0 c1 z0 z1))
      go_ret2
      refine ⟨?_, ?_⟩
      · rw [hv0.out, he0.out, ← HQ0.out, ← HFB.out]; rfl
      · first | exact HB20.out | exact pw_below_drewN HB20.out _
    | true =>
      go_wp2_with (first
        | (go_at_call 14; refine (small_z n2 l2 _ A2 c2 _ hz2 SMx.out (sv_read HQx.s8).2.2 (sv_read HQx.s8).2.1).mono ?_; rintro e w20 ⟨rfl, hb20⟩; rw [← HFB.out]; have HB20 := Lib.hid (below_step HQx.q.below hb20); clear hb20 c0 c1 z0 z1))
      go_ret2
      refine ⟨?_, ?_⟩
      · rw [hv0.out, he0.out, ← HQ0.out, ← HFB.out]; rfl
      · first | exact HB20.out | exact pw_below_drewN HB20.out _
  | true =>
    have HQ0 := Lib.hid (hq1.out rfl)
    clear hq0 hq1
    go_wp2
    refine start_ (n := 5) (S := QV w gA g8 na (.slice A0 la.length ca) la n2 (.slice A2 l2.length c2) l2) (ds := [4]) #[false, false, false, false, false] (by kernel_rfl) rfl rfl (Q4.drew) (fun hHeld => ?_)
    clear Q4
    generalize w9.drew = w10 at hHeld ⊢
    refine take_ (i := 0) (N := some 18) (v := ?_) (a' := ?_) #[true, false, false, false, false] rfl rfl (by kernel_rfl) (fun _ _ _ h => h) (Or.inl ⟨by rfl, ?_⟩) hHeld ?_ ?_
    rotate_left
    · intro w' hs
      have c0 : w'.cell? ⟨gA, 0, none⟩ = some (.bool na) := (two_cells hs.q.ba).1
      have c1 : w'.cell? ⟨gA, 1, none⟩ = some (.slice A0 la.length ca) := (two_cells hs.q.ba).2.1
      clear hs
      go_simp
      with_reducible rfl
    rotate_left
    · simp only [Act.put, List.setIfInBounds_toArray, List.set_cons_zero, List.set_cons_succ, i64_w, i32_w]
      rfl
    refine take_ (i := 1) (N := some 19) (v := ?_) (a' := ?_) #[true, true, false, false, false] rfl rfl (by kernel_rfl) (fun _ _ _ h => h) (Or.inl ⟨by rfl, ?_⟩) hHeld ?_ ?_
    rotate_left
    · intro w' hs
      clear hs
      go_simp
      with_reducible rfl
    rotate_left
    · simp only [Act.put, List.setIfInBounds_toArray, List.set_cons_zero, List.set_cons_succ, i64_w, i32_w]
      rfl
    refine one_ (i := 2) (N := some 20) #[true, true, true, false, false] rfl rfl (by kernel_rfl) (by decide) (fun K hK => ?_)
    refine goes_ Try.func4 (by kernel_rfl) rfl #[.int .i64 d] (by rfl) rfl rfl (by (try simp only [List.map_toArray, List.map_cons, List.map_nil]); first | done | rfl) ?_
    refine (i_z d _ (by omega) d1.out).mono ?_
    rintro e w11 ⟨n1, l1, v1, rfl, hz1, hv1, hb1⟩
    obtain ⟨A1, c1, e1, k1, rd1⟩ := sv_form hv1
    subst e1
    refine ⟨_, rfl, ?_⟩
    obtain rfl : n1 = false := hz1.pos (by omega)
    have S1 := hHeld.step hb1
    refine hK.out _ _ (S1) (fun hHeld => ?_)
    clear hK K
    refine norm_ (a' := ?_) ?_ ?_
    rotate_left
    · show Act.put _ (some 20) _ = _
      simp only [Act.put, List.setIfInBounds_toArray, List.set_cons_zero, List.set_cons_succ, i64_w, i32_w]
      rfl
    refine one_ (i := 3) (N := some 21) #[true, true, true, true, false] rfl rfl (by kernel_rfl) (by decide) (fun K hK => ?_)
    refine goes_ Try.func13 (by kernel_rfl) rfl #[.agg #[.bool na, .slice A0 la.length ca], .agg #[.bool false, .slice A1 l1.length c1]] (by rfl) rfl rfl (by (try simp only [List.map_toArray, List.map_cons, List.map_nil]); first | done | rfl) ?_
    refine (ceil_z na la l1 x d A0 A1 ca c1 _ _ hz hz1 d0 (Lib.hid (word_lt d1.out)) sx (Lib.hid hHeld.q.sv) (Lib.hid rd1) (Lib.hid k1)).mono ?_
    rintro e w12 ⟨n3, l3, v3, rfl, hz3, hv3, hb3⟩
    have hv3' := hHeld.off (Below.refl _ _) hv3
    obtain ⟨A3, c3, e3, k3, rd3⟩ := sv_form hv3
    subst e3
    refine ⟨_, rfl, ?_⟩
    have S2 := hHeld.step hb3
    refine hK.out _ _ (S2) (fun hHeld => ?_)
    clear hK K
    refine norm_ (a' := ?_) ?_ ?_
    rotate_left
    · show Act.put _ (some 21) _ = _
      simp only [Act.put, List.setIfInBounds_toArray, List.set_cons_zero, List.set_cons_succ, i64_w, i32_w]
      rfl
    obtain ⟨c0, c1, z0, z1⟩ := two_cells hHeld.b8
    refine last_ (i := 4) (N := none) #[true, true, true, true, true] rfl rfl (by kernel_rfl) (by decide) (fun K hK => ?_)
    refine skip_ (w1 := ?_) (by rfl) rfl ?_ ?_
    rotate_left
    · go_simp
      rfl
    refine hK.out _ _ ?_
    clear hK K
    refine done_ (by kernel_rfl) ?_
    have Q5 := hHeld.put (n' := n3) hv3' rfl
    clear c0 c1 z0 z1 hHeld S1 S2 hv1 hv3 hv3' rd1 rd3
    generalize (w12.setCell ⟨g8, 0, none⟩ (.bool n3)).setCell ⟨g8, 1, none⟩ (.slice A3 l3.length c3) = w13 at Q5 ⊢
    obtain ⟨c0, c1, z0, z1⟩ := two_cells Q5.b8
    have SMx := Lib.hid (sm_neg (sm_div (sm_neg sx) d0.out))
    obtain ⟨fb, hfb⟩ : ∃ fb, fb = fits (-(-x / d)) := ⟨_, rfl⟩
    have HFB := Lib.hid hfb
    clear hfb
    have HQx := Q5
    cases fb with
    | false =>
      go_wp2_with (first
        | (go_at_call 14; refine (small_z n3 l3 _ A3 c3 _ hz3 SMx.out (sv_read HQx.s8).2.2 (sv_read HQx.s8).2.1).mono ?_; rintro e w20 ⟨rfl, hb20⟩; rw [← HFB.out]; have HB20 := Lib.hid (below_step HQx.q.below hb20); clear hb20 c0 c1 z0 z1))
      go_ret2
      refine ⟨?_, ?_⟩
      · rw [hv0.out, he0.out, ← HQ0.out, ← HFB.out]; rfl
      · first | exact HB20.out | exact pw_below_drewN HB20.out _
    | true =>
      go_wp2_with (first
        | (go_at_call 14; refine (small_z n3 l3 _ A3 c3 _ hz3 SMx.out (sv_read HQx.s8).2.2 (sv_read HQx.s8).2.1).mono ?_; rintro e w20 ⟨rfl, hb20⟩; rw [← HFB.out]; have HB20 := Lib.hid (below_step HQx.q.below hb20); clear hb20 c0 c1 z0 z1))
      go_ret2
      refine ⟨?_, ?_⟩
      · rw [hv0.out, he0.out, ← HQ0.out, ← HFB.out]; rfl
      · first | exact HB20.out | exact pw_below_drewN HB20.out _

end Go.Proofs.Ytmgcmknobnonhaa.Zed
