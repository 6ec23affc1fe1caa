/- The contracts of the reference's inner functions at this program, over whole numbers: each Z that goes in stands for a number, and so does the one that comes back. Conditions: the numbers lie between -10^60 and 10^60. -/
import Derived.Test.YtmgcmknobnonhaaFns3
import Derived.Test.YtmgcmknobnonhaaZZSign
namespace Go.Proofs.Ytmgcmknobnonhaa.Zed
open Go.RowKit Go.Proofs.YtmgcmknobnonhaaW.PrintWords Go.Proofs.YtmgcmknobnonhaaW.PrintLast Go.Proofs.YtmgcmknobnonhaaW.PrintMore Go.Proofs.Ytmgcmknobnonhaa.PNumMulDivs Go.Proofs.Ytmgcmknobnonhaa.Dig
set_option linter.unusedVariables false
/-- Sign and digits stand for the number z. -/
def IsZ (n : Bool) (l : List Int) (z : Int) : Prop := (n, l) = zr z
/-- A number of modest size. -/
def Sm (z : Int) : Prop := -1000000000000000000000000000000000000000000000000000000000000 < z ∧ z < 1000000000000000000000000000000000000000000000000000000000000
theorem IsZ.eqs {n : Bool} {l : List Int} {z : Int} (h : IsZ n l z) : n = (zr z).1 ∧ l = (zr z).2 := by
  unfold IsZ at h
  rw [← h]
  exact ⟨rfl, rfl⟩
theorem IsZ.neg {n : Bool} {l : List Int} {z : Int} (h : IsZ n l z) : n = decide (z < 0) := h.eqs.1
theorem IsZ.len {n : Bool} {l : List Int} {z : Int} (h : IsZ n l z) (hs : Sm z) : l.length ≤ 10 := by
  rw [h.eqs.2]
  refine dg_len_lt ?_
  obtain ⟨h1, h2⟩ := hs
  simp only [pw]
  omega
theorem IsZ.dig {n : Bool} {l : List Int} {z : Int} (h : IsZ n l z) : Dig l := by rw [h.eqs.2]; exact dig_dg _
theorem IsZ.val_eq {n : Bool} {l : List Int} {z : Int} (h : IsZ n l z) : val l = z.natAbs := by rw [h.eqs.2]; exact val_dg _
theorem IsZ.pos {n : Bool} {l : List Int} {z : Int} (h : IsZ n l z) (h0 : 0 ≤ z) : n = false := by rw [h.neg, decide_eq_false (by omega)]
theorem isZ_nil : IsZ false [] 0 := by unfold IsZ zr; rw [show (0 : Int).natAbs = 0 from rfl, dg_zero]; rfl
theorem isZ_digit {d : Int} (h0 : 0 < d) (h1 : d < 1000000) : IsZ false [d] d := by
  unfold IsZ zr
  rw [dg_pos (by omega), decide_eq_false (by omega), show d.natAbs / 1000000 = 0 from by omega, dg_zero, show ((d.natAbs % 1000000 : Nat) : Int) = d from by omega]
/-- The slice v reads as l, and lies in blocks of ok. -/
abbrev SV (w : World) (ok : Nat → Prop) (v : Value) (l : List Int) : Prop := Kd.V (Kd.int .i64) 3 w 0 ok v l
/-- The cells at A read as l. -/
abbrev SC (w : World) (A : Option Addr) (l : List Int) : Prop := Kd.C (Kd.int .i64) w A l.length l
theorem sv_low {w : World} {ok : Nat → Prop} {v : Value} {l : List Int} {b : Nat} (h : Kd.V (Kd.int .i64) 3 w b ok v l) : SV w ok v l := h
theorem sv_of_R {w : World} {ok : Nat → Prop} {v : Value} {l : List Int} {b : Nat} (h : Kd.R (Kd.int .i64) 3 w b ok v l) : SV w (fun k => b ≤ k) v l :=
  Kd.V_mono (Kd.R_V (Kd.R_bound h)) (fun k hk => hk.2.1)
theorem sv_read {w : World} {ok : Nat → Prop} {A : Option Addr} {n c : Nat} {l : List Int} (h : SV w ok (.slice A n c) l) : n = l.length ∧ n ≤ c ∧ SC w A l := Kd.V_reads' h
theorem sv_form {w : World} {ok : Nat → Prop} {v : Value} {l : List Int} (h : SV w ok v l) : ∃ A c, v = .slice A l.length c ∧ l.length ≤ c ∧ SC w A l := by
  obtain ⟨A, c, rfl⟩ := Kd.V_slice h
  exact ⟨A, c, rfl, (sv_read h).2.1, (sv_read h).2.2⟩
/-- What a function that hands back a Z promises: it stands for z and lies in blocks of ok; nothing old has changed. -/
def GivesZ (w : World) (ok : Nat → Prop) (z : Int) (e : Ending) (w' : World) : Prop :=
  ∃ (n : Bool) (l : List Int) (v : Value), e = .returned (.agg #[.bool n, v]) ∧ IsZ n l z ∧ SV w' ok v l ∧ Below w.heap.size w w'
theorem i_z (z : Int) (w : World) (h0 : -9223372036854775808 ≤ z) (h1 : z < 9223372036854775808) : Calls Try.prog 4 #[.int .i64 z] w (GivesZ w (fun k => w.heap.size ≤ k) z) := by
  obtain ⟨k, hk⟩ := (i_said z h0 h1).rounds
  refine (spyref1_I.calls k z _ _ w hk).mono ?_
  rintro e w' ⟨v, rfl, hr, hb⟩
  exact ⟨_, _, v, rfl, rfl, sv_of_R hr, hb⟩
theorem trim_z (neg : Bool) (P : Nat → Prop) (A : Option Addr) (c : Nat) (l : List Int) (z : Int) (w : World) (hv : SV w P (.slice A l.length c) l) (hd : Dig l) (hl : l.length < 1000) (hz : sv neg l = z) :
    Calls Try.prog 11 #[.bool neg, .slice A l.length c] w (GivesZ w (fun k => P k ∨ w.heap.size ≤ k) z) := by
  subst hz
  obtain ⟨k, hk⟩ := (trim_said neg l (by omega) hd).rounds
  refine (spyref1_trim.calls k neg P A c l _ _ w hv hk).mono ?_
  rintro e w' ⟨v, rfl, hr, hb⟩
  exact ⟨_, _, v, rfl, rfl, hr, hb⟩
theorem times_z (n0 n1 : Bool) (l0 l1 : List Int) (x y : Int) (A0 A1 : Option Addr) (c0 c1 : Nat) (w : World) (h0 : IsZ n0 l0 x) (h1 : IsZ n1 l1 y) (s0 : Sm x) (s1 : Sm y) (r0 : SC w A0 l0) (k0 : l0.length ≤ c0) (r1 : SC w A1 l1) (k1 : l1.length ≤ c1) :
    Calls Try.prog 5 #[.agg #[.bool n0, .slice A0 l0.length c0], .agg #[.bool n1, .slice A1 l1.length c1]] w (GivesZ w (fun k => w.heap.size ≤ k) (x * y)) := by
  have e0 := h0.len s0
  have e1 := h1.len s1
  obtain ⟨rfl, rfl⟩ := h0.eqs
  obtain ⟨rfl, rfl⟩ := h1.eqs
  obtain ⟨k, hk⟩ := (times_said x y (by omega)).rounds
  refine (spyref1_Z_Times.calls k _ A0 c0 _ _ A1 c1 _ _ _ w r0 k0 r1 k1 hk).mono ?_
  rintro e w' ⟨v, rfl, hr, hb⟩
  exact ⟨_, _, v, rfl, rfl, hr, hb⟩
theorem cmp_z (n0 n1 : Bool) (l0 l1 : List Int) (x y : Int) (A0 A1 : Option Addr) (c0 c1 : Nat) (w : World) (h0 : IsZ n0 l0 x) (h1 : IsZ n1 l1 y) (s0 : Sm x) (s1 : Sm y) (r0 : SC w A0 l0) (k0 : l0.length ≤ c0) (r1 : SC w A1 l1) (k1 : l1.length ≤ c1) :
    Calls Try.prog 23 #[.agg #[.bool n0, .slice A0 l0.length c0], .agg #[.bool n1, .slice A1 l1.length c1]] w fun e w' => e = .returned (.int .i64 (cmp x y)) ∧ Below w.heap.size w w' := by
  have e0 := h0.len s0
  have e1 := h1.len s1
  obtain ⟨rfl, rfl⟩ := h0.eqs
  obtain ⟨rfl, rfl⟩ := h1.eqs
  obtain ⟨k, hk⟩ := (cmp_said x y (by omega) (by omega)).rounds
  exact spyref1_Z_Cmp.calls k _ A0 c0 _ _ A1 c1 _ _ w r0 k0 r1 k1 hk
theorem less_z (P : Nat → Prop) (n0 n1 : Bool) (l0 l1 : List Int) (x y : Int) (A0 A1 : Option Addr) (c0 c1 : Nat) (w : World) (h0 : IsZ n0 l0 x) (h1 : IsZ n1 l1 y) (s0 : Sm x) (s1 : Sm y) (r0 : SC w A0 l0) (k0 : l0.length ≤ c0) (r1 : SV w P (.slice A1 l1.length c1) l1) :
    Calls Try.prog 30 #[.agg #[.bool n0, .slice A0 l0.length c0], .agg #[.bool n1, .slice A1 l1.length c1]] w (GivesZ w (fun k => P k ∨ w.heap.size ≤ k) (x - y)) := by
  have e0 := h0.len s0
  have e1 := h1.len s1
  obtain ⟨rfl, rfl⟩ := h0.eqs
  obtain ⟨rfl, rfl⟩ := h1.eqs
  obtain ⟨k, hk⟩ := (less_said x y (by omega) (by omega)).rounds
  refine (spyref1_Z_Less.calls k _ A0 c0 _ _ P A1 c1 _ _ _ w r0 k0 r1 hk).mono ?_
  rintro e w' ⟨v, rfl, hr, hb⟩
  exact ⟨_, _, v, rfl, rfl, hr, hb⟩
theorem minus_z (P : Nat → Prop) (n0 : Bool) (l0 : List Int) (x : Int) (A0 : Option Addr) (c0 : Nat) (w : World) (h0 : IsZ n0 l0 x) (s0 : Sm x) (r0 : SV w P (.slice A0 l0.length c0) l0) :
    Calls Try.prog 22 #[.agg #[.bool n0, .slice A0 l0.length c0]] w (GivesZ w (fun k => P k ∨ w.heap.size ≤ k) (-x)) := by
  have e0 := h0.len s0
  obtain ⟨rfl, rfl⟩ := h0.eqs
  obtain ⟨k, hk⟩ := (minus_said x (by omega)).rounds
  refine (spyref1_Z_Minus.calls k _ P A0 c0 _ _ _ w r0 hk).mono ?_
  rintro e w' ⟨v, rfl, hr, hb⟩
  exact ⟨_, _, v, rfl, rfl, hr, hb⟩
/-- Sign: -1, 0 or 1. -/
theorem sign_z (n0 : Bool) (l0 : List Int) (x : Int) (A0 : Option Addr) (c0 : Nat) (w : World) (h0 : IsZ n0 l0 x) (r0 : SC w A0 l0) (k0 : l0.length ≤ c0) :
    Calls Try.prog 31 #[.agg #[.bool n0, .slice A0 l0.length c0]] w fun e w' => e = .returned (.int .i64 (cmp x 0)) ∧ Below w.heap.size w w' := by
  refine spyref1_Z_Sign.calls n0 A0 c0 l0 (cmp x 0) w r0 k0 ?_
  unfold spyref1_Z_Sign.f
  by_cases h : x < 0
  · rw [h0.neg, decide_eq_true h, if_pos rfl, cmp_lt h]
  · rw [h0.neg, decide_eq_false h, if_neg (by decide)]
    have e := h0.eqs.2
    unfold zr at e
    simp only at e
    by_cases hx : x = 0
    · rw [cmp_eq hx]
      rw [hx, show (0 : Int).natAbs = 0 from rfl, dg_zero] at e
      rw [e, if_neg (by simp)]
    · rw [cmp_gt (by omega)]
      rw [dg_pos (by omega)] at e
      rw [e, if_pos (by rw [List.length_cons]; omega)]
theorem small_z (n0 : Bool) (l0 : List Int) (x : Int) (A0 : Option Addr) (c0 : Nat) (w : World) (h0 : IsZ n0 l0 x) (s0 : Sm x) (r0 : SC w A0 l0) (k0 : l0.length ≤ c0) :
    Calls Try.prog 14 #[.agg #[.bool n0, .slice A0 l0.length c0]] w fun e w' => e = .returned (.tuple #[.int .i64 (if fits x = true then x else 0), .bool (fits x)]) ∧ Below w.heap.size w w' := by
  have e0 := h0.len s0
  obtain ⟨rfl, rfl⟩ := h0.eqs
  obtain ⟨k, hk⟩ := (small_said x (by omega)).rounds
  have e : (if fits x = true then (x, true) else ((0 : Int), false)) = (if fits x = true then x else 0, fits x) := by
    cases fits x <;> rfl
  rw [e] at hk
  exact spyref1_Z_Small.calls k _ A0 c0 _ _ _ w r0 k0 hk
set_option maxHeartbeats 400000 in
/-- Abs hands the digits back as they are. -/
theorem abs_z (n0 : Bool) (A0 : Option Addr) (n c0 : Nat) (w : World) :
    Calls Try.prog 29 #[.agg #[.bool n0, .slice A0 n c0]] w fun e w' => e = .returned (.agg #[.bool false, .slice A0 n c0]) ∧ Below w.heap.size w w' := by
  go_enter Try.func29, Try.ntmps29
  go_wp2
  refine bodyPost_ret (v := .agg #[.bool false, .slice A0 n c0]) (by simp [results, Try.results29, go_sem]) rfl ⟨rfl, ?_⟩
  exact below_alloc (below_alloc (Below.refl _ _) _) _
end Go.Proofs.Ytmgcmknobnonhaa.Zed
