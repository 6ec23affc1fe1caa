/- The walk of the law NumMulDivs: for every a, b, c it returns true. Conditions: a, b and c are machine words. -/
import Derived.Test.YtmgcmknobnonhaaQuo
import Derived.Test.YtmgcmknobnonhaaNums
namespace Go.Proofs.Ytmgcmknobnonhaa.Zed
open Go.RowKit Go.Proofs.YtmgcmknobnonhaaW.PrintWords Go.Proofs.YtmgcmknobnonhaaW.PrintLast Go.Proofs.YtmgcmknobnonhaaW.PrintMore Go.Proofs.Ytmgcmknobnonhaa.PNumMulDivs Go.Proofs.Ytmgcmknobnonhaa.Dig Go.Proofs.Ytmgcmknobnonhaa.Num
set_option linter.unusedVariables false
set_option linter.unusedSimpArgs false
/-- The quotient's contract for every divisor. -/
theorem quo_word (up na : Bool) (la : List Int) (x c q v0 e0 : Int) (A0 : Option Addr) (ca : Nat) (w : World) (P : Nat → Prop) (hc : RowKit.Hid (Whole c)) (hz : IsZ na la x) (sx : RowKit.Hid (Sm x)) (r0 : RowKit.Hid (SV w P (.slice A0 la.length ca) la)) (hq0 : RowKit.Hid (up = false → x / c = q)) (hq1 : RowKit.Hid (up = true → -(-x / c) = q)) (hv : RowKit.Hid (v0 = mv c q)) (he : RowKit.Hid (e0 = me c q)) :
    Calls Try.prog 6 #[.agg #[.bool na, .slice A0 la.length ca], .int .i64 c, .bool up] w (QPost w v0 e0) := by
  have h1 := hv.out
  have h2 := he.out
  unfold mv at h1
  unfold me at h2
  by_cases t : c < 1
  · rw [if_pos t] at h1 h2
    rw [h1, h2]
    exact quo_low up na la c A0 ca w t
  · rw [if_neg t] at h1 h2
    exact quo_any up na la x c q v0 e0 A0 ca w P t (Lib.hid (by omega)) (Lib.hid hc.out.2) hz sx.out r0 hq0 hq1 (Lib.hid h1) (Lib.hid h2)
theorem prod_small {a b : Int} (ha : Whole a) (hb : Whole b) : Sm (a * b) := by
  have := mul_bound a b ha hb
  unfold Sm
  omega
theorem word_small {a : Int} (ha : Whole a) : Sm a := by
  obtain ⟨h1, h2⟩ := ha
  unfold Sm
  omega
/-- The product's box, written. -/
theorem law_box {w W4 W5 : World} {g7 : Nat} {n : Bool} {v : Value} {l : List Int} {P : Nat → Prop} (L : Below w.heap.size w W4) (hv : SV W4 P v l) (hg : g7 = W4.heap.size) (hbox : W5.heap[g7]? = some (.cells #[.bool false, .slice none 0 0] 24 (0, 0))) (hb : Below W4.heap.size W4 W5) {w2 : World} (hw : w2 = (W5.setCell ⟨g7, 0, none⟩ (.bool n)).setCell ⟨g7, 1, none⟩ v) :
    w2.heap[g7]? = some (.cells #[.bool n, v] 24 (0, 0)) ∧ SV w2 (fun k => k ≠ g7) v l ∧ Below w.heap.size w w2 := by
  have := L.size
  subst hw
  refine ⟨blk_put (blk_put hbox 0 _ rfl) 1 _ rfl, ?_, below_set (below_set (below_step L hb) (by omega)) (by omega)⟩
  exact Kd.V_far (Kd.V_far (off_new hv hg hb) (p := ⟨g7, 0, none⟩) (fun k hk => hk) _) (p := ⟨g7, 1, none⟩) (fun k hk => hk) _
set_option maxHeartbeats 4000000 in
set_option maxRecDepth 100000 in
theorem law_any (a b c : Int) (w : World) (ha : Whole a) (hb : Whole b) (hc : Whole c) :
    Calls Try.prog 3 #[.int .i64 a, .int .i64 b, .int .i64 c] w fun e w' => e = .returned (.bool true) ∧ Below w.heap.size w w' := by
  have hu24 := Try.underlying24
  have sp := Lib.hid (prod_small ha hb)
  have HA := Lib.hid ha
  have HB := Lib.hid hb
  have HC := Lib.hid hc
  clear ha hb hc
  obtain ⟨dn, hdn⟩ : ∃ q, RowKit.Hid (a * b / c = q) := ⟨_, Lib.hid rfl⟩
  obtain ⟨up, hup⟩ : ∃ q, RowKit.Hid (-(-(a * b) / c) = q) := ⟨_, Lib.hid rfl⟩
  obtain ⟨v0, hv0⟩ : ∃ v, RowKit.Hid (v = mv c dn) := ⟨_, Lib.hid rfl⟩
  obtain ⟨e0, he0⟩ : ∃ v, RowKit.Hid (v = me c dn) := ⟨_, Lib.hid rfl⟩
  obtain ⟨v1, hv1⟩ : ∃ v, RowKit.Hid (v = mv c up) := ⟨_, Lib.hid rfl⟩
  obtain ⟨e1, he1⟩ : ∃ v, RowKit.Hid (v = me c up) := ⟨_, Lib.hid rfl⟩
  go_enter Try.func3, Try.ntmps3
  go_wp2_with fail
  refine (i_z a _ HA.out.1 HA.out.2).mono ?_
  rintro e W1 ⟨na, la, va, rfl, hza, hva, hb1⟩
  obtain ⟨Aa, ca, ea, ka, rda⟩ := sv_form hva
  subst ea
  have L1 := Lib.hid hb1
  clear hb1
  go_wp2_with fail
  refine (i_z b _ HB.out.1 HB.out.2).mono ?_
  rintro e W2 ⟨nb, lb, vb, rfl, hzb, hvb, hb2⟩
  obtain ⟨Ab, cb, eb, kb, rdb⟩ := sv_form hvb
  subst eb
  have RA := Lib.hid (Kd.C_below rda hb2)
  have RB := Lib.hid rdb
  have L2 := Lib.hid (below_step L1.out hb2)
  clear hb2 rda rdb hva hvb L1
  go_wp2_with fail
  refine (times_z na nb la lb a b Aa Ab ca cb _ hza hzb (word_small HA.out) (word_small HB.out) RA.out ka RB.out kb).mono ?_
  rintro e W3 ⟨np, lp, vp, rfl, hzp, hvp, hb3⟩
  obtain ⟨Ap, cp, ep, kp, rdp⟩ := sv_form hvp
  subst ep
  have L3 := Lib.hid (below_step L2.out hb3)
  have VP := Lib.hid hvp
  clear hb3 L2 RA RB rdp hvp ka kb
  go_wp2_with (first
    | ((with_reducible refine gate_dst (N := 7) rfl ?_); refine box_event ?hg (N := 7) ?hd (cs := #[.bool false, .slice none 0 0]) (t := 24) ?hr ?_; (case hd => rfl); (case hg => rfl); (case hr => first | (go_simp; done) | (go_simp; rfl)); intro g7 hg W5 h hb; have Hg7 := Lib.hid hg; obtain ⟨c0, c1, z0, z1⟩ := two_cells h; have BX := Lib.hid (law_box (n := np) L3.out VP.out hg h hb rfl); clear hg h hb))
  obtain ⟨BP, VQ, LB⟩ := BX.out
  clear BX c0 c1 z0 z1
  generalize (W5.setCell ⟨g7, 0, none⟩ (.bool np)).setCell ⟨g7, 1, none⟩ (.slice Ap lp.length cp) = W6 at BP VQ LB ⊢
  refine (quo_word false np lp (a * b) c dn v0 e0 Ap cp _ _ HC hzp sp (Lib.hid VQ) (Lib.hid (fun _ => hdn.out)) (Lib.hid (fun h => by cases h)) hv0 he0).mono ?_
  rintro e W7 ⟨rfl, hb7⟩
  have VR := Lib.hid (Kd.V_below VQ hb7)
  have L7 := Lib.hid (below_step LB hb7)
  obtain ⟨c0, c1, z0, z1⟩ := two_cells (blk_below BP hb7)
  clear hb7 BP VQ LB z0 z1
  go_wp2_with fail
  refine (quo_word true np lp (a * b) c up v1 e1 Ap cp _ _ HC hzp sp VR (Lib.hid (fun h => by cases h)) (Lib.hid (fun _ => hup.out)) hv1 he1).mono ?_
  rintro e W8 ⟨rfl, hb8⟩
  have L8 := Lib.hid (below_step L7.out hb8)
  clear hb8 L7 VR c0 c1
  go_wp2_with fail
  refine (muldiv_any a b c dn _ HA.out HB.out HC.out hdn).mono ?_
  rintro e W9 ⟨rfl, hb9⟩
  have L9 := Lib.hid (below_step L8.out hb9)
  rw [← hv0.out, ← he0.out]
  clear hb9 L8
  go_wp2_with fail
  refine (muldivup_any a b c up _ HA.out HB.out HC.out hup).mono ?_
  rintro e W10 ⟨rfl, hb10⟩
  have L10 := Lib.hid (below_step L9.out hb10)
  rw [← hv1.out, ← he1.out]
  clear hb10 L9
  go_wp2_with fail
  refine (nums_any _).mono ?_
  rintro e W11 ⟨rfl, hb11⟩
  have L11 := Lib.hid (below_step L10.out hb11)
  clear hb11 L10
  go_wp2
  go_ret
  exact ⟨rfl, L11.out⟩
end Go.Proofs.Ytmgcmknobnonhaa.Zed
