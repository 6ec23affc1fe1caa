/- The contracts of (num.Wide).Plus, num.MulDiv and num.MulDivUp at this program: the quotient of a * b by c, rounded down or up. Conditions: a, b and c are machine words; the sum of Plus is a number of 128 bits. -/
import Derived.Test.YtmgcmknobnonhaaWDiv
namespace Go.Proofs.Ytmgcmknobnonhaa.Num
open Go.RowKit Go.Proofs.YtmgcmknobnonhaaW.PrintWords
set_option linter.unusedVariables false
theorem cr2_pos' {x y : Int} (hx : Word x) (hy : Word y) : 0 ≤ cr2 x y ∧ cr2 x y ≤ 1 := ⟨cr2_pos hx hy, cr2_le hx hy⟩
set_option maxHeartbeats 400000 in
theorem plus_raw (h l h' l' : Int) (w : World) (hl : Word l) (hl' : Word l') :
    Calls Try.prog 18 #[.agg #[.int .i64 h, .int .u64 l], .agg #[.int .i64 h', .int .u64 l']] w fun e w' => e = .returned (.agg #[.int .i64 (wrap64 (lo3 (uw h) (uw h') (cr2 l l'))), .int .u64 (lo2 l l')]) ∧ Below w.heap.size w w' := by
  have e2 := uw_wrap h
  have e3 := uw_wrap h'
  have p1 := hl.1
  have p2 := hl'.1
  have p3 := (uw_word h).1
  have p4 := (uw_word h').1
  have p5 := cr2_pos hl hl'
  have p6 := cr2_le hl hl'
  clear hl hl'
  go_enter Try.func18, Try.ntmps18
  go_wp2_with (first | simp only [add64_0 l l' p1 p2] | simp only [add64_3 (uw h) (uw h') (cr2 l l') p3 p4 p5 p6])
  refine bodyPost_ret (v := .agg #[.int .i64 (wrap64 (lo3 (uw h) (uw h') (cr2 l l'))), .int .u64 (lo2 l l')]) (by simp [results, Try.results18, go_sem]) rfl ⟨rfl, ?_⟩
  exact below_alloc (below_alloc (below_alloc (Below.refl _ _) _) _) _
theorem plus_num (n m : Int) (h1 : -170141183460469231731687303715884105728 ≤ n + m) (h2 : n + m < 170141183460469231731687303715884105728) :
    wrap64 (lo3 (uw (wh n)) (uw (wh m)) (cr2 (wl n) (wl m))) = wh (n + m) ∧ lo2 (wl n) (wl m) = wl (n + m) := by
  unfold wrap64 lo3 cr2 uw lo2 wh wl
  omega
theorem plus_any (n m : Int) (w : World) (h1 : -170141183460469231731687303715884105728 ≤ n + m) (h2 : n + m < 170141183460469231731687303715884105728) :
    Calls Try.prog 18 #[.agg #[.int .i64 (wh n), .int .u64 (wl n)], .agg #[.int .i64 (wh m), .int .u64 (wl m)]] w fun e w' => e = .returned (.agg #[.int .i64 (wh (n + m)), .int .u64 (wl (n + m))]) ∧ Below w.heap.size w w' := by
  have h := plus_raw (wh n) (wl n) (wh m) (wl m) w (word_wl n) (word_wl m)
  rw [(plus_num n m h1 h2).1, (plus_num n m h1 h2).2] at h
  exact h
/-- |a * b| is far below 2^127. -/
theorem mul_bound (a b : Int) (ha : Whole a) (hb : Whole b) : -85070591730234615865843651857942052864 ≤ a * b ∧ a * b ≤ 85070591730234615865843651857942052864 := by
  have h := prod_bound a b ha hb
  by_cases s : a < 0 ↔ b < 0
  · have := prod_pos a b s; omega
  · have := prod_neg a b s; omega
/-- What MulDiv returns: ErrArg (1) if c is less than 1, else the quotient q or ErrLarge. -/
def mv (c q : Int) : Int := if c < 1 then 0 else qv q
def me (c q : Int) : Int := if c < 1 then 1 else qe q
set_option maxHeartbeats 400000 in
theorem muldiv_any (a b c q : Int) (w : World) (ha : Whole a) (hb : Whole b) (hc : Whole c) (hq : RowKit.Hid (a * b / c = q)) :
    Calls Try.prog 7 #[.int .i64 a, .int .i64 b, .int .i64 c] w fun e w' => e = .returned (.tuple #[.int .i64 (mv c q), .int .i64 (me c q)]) ∧ Below w.heap.size w w' := by
  have hm := Lib.hid (mul_bound a b ha hb)
  by_cases t : c < 1
  · have F := Lib.hid (show mv c q = 0 ∧ me c q = 1 by unfold mv me; rw [if_pos t, if_pos t]; exact ⟨rfl, rfl⟩)
    go_enter Try.func7, Try.ntmps7
    go_wp2_with fail
    refine (product_any a b ha hb _).mono ?_
    rintro e w1 ⟨rfl, hb1⟩
    go_wp2_with fail
    refine (wdiv_low (a * b) c _ t).mono ?_
    rintro e w2 ⟨rfl, hb2⟩
    go_wp2
    go_ret2
    exact ⟨ret_two F.out.1.symm F.out.2.symm, below_step hb1 hb2⟩
  · have F := Lib.hid (show mv c q = qv q ∧ me c q = qe q by unfold mv me; rw [if_neg t, if_neg t]; exact ⟨rfl, rfl⟩)
    go_enter Try.func7, Try.ntmps7
    go_wp2_with fail
    refine (product_any a b ha hb _).mono ?_
    rintro e w1 ⟨rfl, hb1⟩
    go_wp2_with fail
    refine (wdiv_any (a * b) c q _ hc (by omega) (by have := hm.out; omega) (by have := hm.out; omega) hq).mono ?_
    rintro e w2 ⟨rfl, hb2⟩
    go_wp2
    go_ret2
    exact ⟨ret_two F.out.1.symm F.out.2.symm, below_step hb1 hb2⟩
end Go.Proofs.Ytmgcmknobnonhaa.Num
namespace Go.Proofs.Ytmgcmknobnonhaa.Num
open Go.RowKit Go.Proofs.YtmgcmknobnonhaaW.PrintWords Go.Proofs.YtmgcmknobnonhaaW.PrintLast
set_option linter.unusedVariables false
set_option linter.unusedSimpArgs false
/-- The Wide's two cells in a world. -/
theorem two_cells {w : World} {g : Nat} {x y : Value} {t : TypeId} (h : w.heap[g]? = some (.cells #[x, y] t (0, 0))) : w.cell? ⟨g, 0, none⟩ = some x ∧ w.cell? ⟨g, 1, none⟩ = some y ∧ w.frozen? ⟨g, 0, none⟩ = false ∧ w.frozen? ⟨g, 1, none⟩ = false :=
  ⟨(blk_cell h 0).trans rfl, (blk_cell h 1).trans rfl, blk_frozen h 0, blk_frozen h 1⟩
set_option maxHeartbeats 400000 in
theorem up_low (a b c : Int) (w : World) (ha : Whole a) (hb : Whole b) (t : c < 1) :
    Calls Try.prog 8 #[.int .i64 a, .int .i64 b, .int .i64 c] w fun e w' => e = .returned (.tuple #[.int .i64 0, .int .i64 1]) ∧ Below w.heap.size w w' := by
  go_enter Try.func8, Try.ntmps8
  go_wp2_with fail
  refine (product_any a b ha hb _).mono ?_
  rintro e w1 ⟨rfl, hb1⟩
  go_wp2_with fail
  refine (wmod_low (a * b) c _ t).mono ?_
  rintro e w2 ⟨rfl, hb2⟩
  obtain ⟨c0, c1, _, _⟩ := two_cells (blk_below (blk_new w1 _) hb2)
  have hb3 := below_step (below_alloc hb1 _) hb2
  clear hb2
  go_wp2_with fail
  refine (wdiv_low (a * b) c _ t).mono ?_
  rintro e w3 ⟨rfl, hb4⟩
  go_wp2
  go_ret2
  exact ⟨rfl, below_step hb3 hb4⟩
set_option maxHeartbeats 400000 in
/-- The product p is a multiple of c. -/
theorem up_zero (a b c q : Int) (w : World) (ha : Whole a) (hb : Whole b) (hc : Whole c) (t : 1 ≤ c) (hr : RowKit.Hid (a * b % c = 0)) (hq : RowKit.Hid (a * b / c = q)) :
    Calls Try.prog 8 #[.int .i64 a, .int .i64 b, .int .i64 c] w fun e w' => e = .returned (.tuple #[.int .i64 (qv q), .int .i64 (qe q)]) ∧ Below w.heap.size w w' := by
  have hm := Lib.hid (mul_bound a b ha hb)
  go_enter Try.func8, Try.ntmps8
  go_wp2_with fail
  refine (product_any a b ha hb _).mono ?_
  rintro e w1 ⟨rfl, hb1⟩
  go_wp2_with fail
  refine (wmod_any (a * b) c _ hc t (by have := hm.out; omega) (by have := hm.out; omega)).mono ?_
  rintro e w2 ⟨rfl, hb2⟩
  rw [hr.out]
  obtain ⟨c0, c1, _, _⟩ := two_cells (blk_below (blk_new w1 _) hb2)
  have hb3 := below_step (below_alloc hb1 _) hb2
  clear hb2
  go_wp2_with fail
  refine (wdiv_any (a * b) c q _ hc t (by have := hm.out; omega) (by have := hm.out; omega) hq).mono ?_
  rintro e w3 ⟨rfl, hb4⟩
  go_wp2
  go_ret2
  exact ⟨rfl, below_step hb3 hb4⟩
set_option maxHeartbeats 800000 in
/-- The product p is no multiple of c: x = c - r is added, n = p + x * 1 is the next multiple. -/
theorem up_next (a b c q r x n : Int) (w : World) (ha : Whole a) (hb : Whole b) (hc : Whole c) (t : 1 ≤ c) (hr : RowKit.Hid (a * b % c = r)) (r0 : 0 < r) (r1 : r < c) (hx : RowKit.Hid (wrap64 (c - r) = x)) (wx : Whole x) (hn : RowKit.Hid (n = a * b + x * 1)) (n1 : RowKit.Hid (-170141183460469231731687303715884105728 < n)) (n2 : RowKit.Hid (n < 170141183460469231731687303715884105728)) (hq : RowKit.Hid (n / c = q)) :
    Calls Try.prog 8 #[.int .i64 a, .int .i64 b, .int .i64 c] w fun e w' => e = .returned (.tuple #[.int .i64 (qv q), .int .i64 (qe q)]) ∧ Below w.heap.size w w' := by
  have hm := Lib.hid (mul_bound a b ha hb)
  have u1 : Whole 1 := ⟨by decide, by decide⟩
  go_enter Try.func8, Try.ntmps8
  go_wp2_with fail
  refine (product_any a b ha hb _).mono ?_
  rintro e w1 ⟨rfl, hb1⟩
  go_wp2_with fail
  refine (wmod_any (a * b) c _ hc t (by have := hm.out; omega) (by have := hm.out; omega)).mono ?_
  rintro e w2 ⟨rfl, hb2⟩
  rw [hr.out]
  have k2 := blk_below (blk_new w1 _) hb2
  have hb3 := below_step (below_alloc hb1 _) hb2
  have hg := Lib.hid (below_size hb1)
  clear hb2 hb1
  obtain ⟨g, eg⟩ : ∃ g, g = w1.heap.size := ⟨_, rfl⟩
  rw [← eg] at k2 hg ⊢
  clear eg
  go_wp2
  have hb4 := below_drew1 hb3
  clear hb3
  refine start_ (n := 7) (S := fun w' => w'.heap[g]? = some (.cells #[.int .i64 (wh (a * b)), .int .u64 (wl (a * b))] 39 (0, 0))) (ds := [6]) #[false, false, false, false, false, false, false] (by kernel_rfl) rfl rfl (k2) (fun hHeld => ?_)
  generalize w2.drew = w3 at hb4 hHeld ⊢
  refine take_ (i := 0) (N := some 18) (v := ?_) (a' := ?_) #[true, false, false, false, false, false, false] rfl rfl (by kernel_rfl) (fun _ _ _ h => h) (Or.inl ⟨by rfl, ?_⟩) hHeld ?_ ?_
  rotate_left
  · intro w' hs
    obtain ⟨c0, c1, _, _⟩ := two_cells hs
    clear hs
    go_simp
    with_reducible rfl
  rotate_left
  · simp only [Act.put, List.setIfInBounds_toArray, List.set_cons_zero, List.set_cons_succ, i64_w, i32_w]
    rfl
  refine take_ (i := 1) (N := some 19) (v := ?_) (a' := ?_) #[true, true, false, false, false, false, false] rfl rfl (by kernel_rfl) (fun _ _ _ h => h) (Or.inl ⟨by rfl, ?_⟩) hHeld ?_ ?_
  rotate_left
  · intro w' hs
    clear hs
    go_simp
    with_reducible rfl
  rotate_left
  · simp only [Act.put, List.setIfInBounds_toArray, List.set_cons_zero, List.set_cons_succ, i64_w, i32_w]
    rfl
  refine take_ (i := 2) (N := some 20) (v := ?_) (a' := ?_) #[true, true, true, false, false, false, false] rfl rfl (by kernel_rfl) (fun _ _ _ h => h) (Or.inl ⟨by rfl, ?_⟩) hHeld ?_ ?_
  rotate_left
  · intro w' hs
    clear hs
    go_simp
    with_reducible rfl
  rotate_left
  · simp only [Act.put, List.setIfInBounds_toArray, List.set_cons_zero, List.set_cons_succ, i64_w, i32_w]
    rfl
  refine take_ (i := 3) (N := some 21) (v := ?_) (a' := ?_) #[true, true, true, true, false, false, false] rfl rfl (by kernel_rfl) (fun _ _ _ h => h) (Or.inl ⟨by rfl, ?_⟩) hHeld ?_ ?_
  rotate_left
  · intro w' hs
    clear hs
    go_simp
    with_reducible rfl
  rotate_left
  · simp only [Act.put, List.setIfInBounds_toArray, List.set_cons_zero, List.set_cons_succ, i64_w, i32_w]
    rfl
  refine one_ (i := 4) (N := some 22) #[true, true, true, true, true, false, false] rfl rfl (by kernel_rfl) (by decide) (fun K hK => ?_)
  refine goes_ Try.func15 (by kernel_rfl) rfl #[.int .i64 (wrap64 (c - r)), .int .i64 1] (by rfl) rfl rfl (by (try simp only [List.map_toArray, List.map_cons, List.map_nil]); first | done | rfl) ?_
  rw [hx.out]
  refine (product_any x 1 wx u1 _).mono ?_
  rintro e w4 ⟨rfl, hb5⟩
  refine ⟨_, rfl, ?_⟩
  have hh4 := blk_below hHeld hb5
  have hb6 := below_step hb4 hb5
  clear hb4 hb5
  refine hK.out _ _ (hh4) (fun hHeld => ?_)
  clear hK K
  refine norm_ (a' := ?_) ?_ ?_
  rotate_left
  · show Act.put _ (some 22) _ = _
    simp only [Act.put, List.setIfInBounds_toArray, List.set_cons_zero, List.set_cons_succ, i64_w, i32_w]
    rfl
  refine one_ (i := 5) (N := some 23) #[true, true, true, true, true, true, false] rfl rfl (by kernel_rfl) (by decide) (fun K hK => ?_)
  refine goes_ Try.func18 (by kernel_rfl) rfl #[.agg #[.int .i64 (wh (a * b)), .int .u64 (wl (a * b))], .agg #[.int .i64 (wh (x * 1)), .int .u64 (wl (x * 1))]] (by rfl) rfl rfl (by (try simp only [List.map_toArray, List.map_cons, List.map_nil]); first | done | rfl) ?_
  refine (plus_any (a * b) (x * 1) _ (by have h1 := n1.out; rw [hn.out] at h1; omega) (by have h1 := n2.out; rw [hn.out] at h1; exact h1)).mono ?_
  rintro e w5 ⟨rfl, hb7⟩
  rw [← hn.out]
  refine ⟨_, rfl, ?_⟩
  have hh5 := blk_below hHeld hb7
  have hb8 := below_step hb6 hb7
  clear hb6 hb7
  refine hK.out _ _ (hh5) (fun hHeld => ?_)
  clear hK K
  refine norm_ (a' := ?_) ?_ ?_
  rotate_left
  · show Act.put _ (some 23) _ = _
    simp only [Act.put, List.setIfInBounds_toArray, List.set_cons_zero, List.set_cons_succ, i64_w, i32_w]
    rfl
  refine last_ (i := 6) (N := none) #[true, true, true, true, true, true, true] rfl rfl (by kernel_rfl) (by decide) (fun K hK => ?_)
  obtain ⟨c0, c1, z0, z1⟩ := two_cells hHeld
  refine skip_ (w1 := ?_) (by rfl) rfl ?_ ?_
  rotate_left
  · go_simp
    rfl
  refine hK.out _ _ ?_
  clear hK K
  refine done_ (by kernel_rfl) ?_
  have hh6 := blk_put (blk_put hHeld 0 (.int .i64 (wh n)) rfl) 1 (.int .u64 (wl n)) rfl
  have hb9 := below_set (below_set hb8 (g := g) (j := 0) (v := .int .i64 (wh n)) hg.out) (g := g) (j := 1) (v := .int .u64 (wl n)) hg.out
  clear c0 c1 z0 z1 hb8 hHeld
  generalize (w5.setCell ⟨g, 0, none⟩ (.int .i64 (wh n))).setCell ⟨g, 1, none⟩ (.int .u64 (wl n)) = w6 at hh6 hb9 ⊢
  obtain ⟨c0, c1, _, _⟩ := two_cells hh6
  go_wp2_with fail
  refine (wdiv_any n c q _ hc t n1.out n2.out hq).mono ?_
  rintro e w7 ⟨rfl, hb10⟩
  go_wp2
  go_ret2
  exact ⟨rfl, below_step hb9 hb10⟩
/-- num.MulDivUp. -/
theorem muldivup_any (a b c q : Int) (w : World) (ha : Whole a) (hb : Whole b) (hc : Whole c) (hq : RowKit.Hid (-(-(a * b) / c) = q)) :
    Calls Try.prog 8 #[.int .i64 a, .int .i64 b, .int .i64 c] w fun e w' => e = .returned (.tuple #[.int .i64 (mv c q), .int .i64 (me c q)]) ∧ Below w.heap.size w w' := by
  by_cases t : c < 1
  · unfold mv me
    rw [if_pos t, if_pos t]
    exact up_low a b c w ha hb t
  · unfold mv me
    rw [if_neg t, if_neg t]
    have hm := mul_bound a b ha hb
    have hc2 := hc.2
    have e1 := Int.emod_add_mul_ediv (a * b) c
    have e2 := Int.emod_nonneg (a * b) (b := c) (by omega)
    have e3 := Int.emod_lt_of_pos (a * b) (b := c) (by omega)
    generalize hp : a * b = p at *
    by_cases r0 : p % c = 0
    · refine up_zero a b c q w ha hb hc (by omega) (show a * b % c = 0 by rw [hp]; exact r0) (show a * b / c = q from ?_)
      rw [← hq.out, hp]
      have : -p / c = -(p / c) := ((Int.ediv_emod_unique (a := -p) (b := c) (r := 0) (q := -(p / c)) (by omega)).2 ⟨by rw [Int.mul_neg]; omega, by omega, by omega⟩).1
      rw [this, Int.neg_neg]
    · refine up_next a b c q (p % c) (c - p % c) (p + (c - p % c) * 1) w ha hb hc (by omega) (show a * b % c = p % c by rw [hp]) (by omega) e3 (w64_id (by omega) (by omega)) ⟨by omega, by omega⟩ (show p + (c - p % c) * 1 = a * b + (c - p % c) * 1 by rw [hp]) (show _ < _ by omega) (show _ < _ by omega) (show (p + (c - p % c) * 1) / c = q from ?_)
      rw [← hq.out]
      have k1 : -p / c = -(p / c) - 1 := ((Int.ediv_emod_unique (a := -p) (b := c) (r := c - p % c) (q := -(p / c) - 1) (by omega)).2 ⟨by rw [Int.mul_sub, Int.mul_neg, Int.mul_one]; omega, by omega, by omega⟩).1
      have k2 : (p + (c - p % c) * 1) / c = p / c + 1 := ((Int.ediv_emod_unique (a := p + (c - p % c) * 1) (b := c) (r := 0) (q := p / c + 1) (by omega)).2 ⟨by rw [Int.mul_add, Int.mul_one, Int.mul_one]; omega, by omega, by omega⟩).1
      rw [k1, k2]
      omega
end Go.Proofs.Ytmgcmknobnonhaa.Num
