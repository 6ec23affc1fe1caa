/- What holds in memory while the reference's Split runs: its boxes, the digits of the quotient, the rest; and that calls and its own stores keep it. No conditions. -/
import Derived.Test.YtmgcmknobnonhaaZcon
import Derived.Test.YtmgcmknobnonhaaSplitLaw
namespace Go.Proofs.Ytmgcmknobnonhaa.Zed
open Go.RowKit Go.Proofs.YtmgcmknobnonhaaW.PrintWords Go.Proofs.YtmgcmknobnonhaaW.PrintLast Go.Proofs.YtmgcmknobnonhaaW.PrintMore Go.Proofs.Ytmgcmknobnonhaa.PNumMulDivs Go.Proofs.Ytmgcmknobnonhaa.Dig
set_option linter.unusedVariables false
theorem two_cells {w : World} {g : Nat} {x y : Value} {t : TypeId} (h : w.heap[g]? = some (.cells #[x, y] t (0, 0))) : w.cell? ⟨g, 0, none⟩ = some x ∧ w.cell? ⟨g, 1, none⟩ = some y ∧ w.frozen? ⟨g, 0, none⟩ = false ∧ w.frozen? ⟨g, 1, none⟩ = false :=
  ⟨(blk_cell h 0).trans rfl, (blk_cell h 1).trans rfl, blk_frozen h 0, blk_frozen h 1⟩
/-- The places: the boxes of a and b, the two results, m, the digits, r. -/
structure At where
  a : Nat
  b : Nat
  x : Nat
  y : Nat
  m : Nat
  q : Nat
  r : Nat
structure At.Ok (g : At) (w : World) : Prop where
  o0 : w.heap.size ≤ g.a
  o1 : g.a < g.b
  o2 : g.b < g.x
  o3 : g.x < g.y
  o4 : g.y < g.m
  o5 : g.m < g.q
  o6 : g.q < g.r
structure SW (w : World) (g : At) (na : Bool) (va vb : Value) (n : Nat) (ql : List Int) (vr : Value) (rl : List Int) (wr : World) : Prop where
  ok : g.Ok w
  ba : wr.heap[g.a]? = some (.cells #[.bool na, va] 24 (0, 0))
  bb : wr.heap[g.b]? = some (.cells #[.bool false, vb] 24 (0, 0))
  bx : wr.heap[g.x]? = some (.cells #[.bool false, .slice none 0 0] 24 (0, 0))
  by_ : wr.heap[g.y]? = some (.cells #[.bool false, .slice none 0 0] 24 (0, 0))
  bm : wr.heap[g.m]? = some (.cells #[.bool false, vb] 24 (0, 0))
  br : wr.heap[g.r]? = some (.cells #[.bool false, vr] 24 (0, 0))
  q : Kd.R (Kd.int .i64) 3 wr w.heap.size (fun k => k = g.q) (.slice (some ⟨g.q, 0, none⟩) n n) ql
  r : SV wr (fun k => g.r < k) vr rl
  below : Below w.heap.size w wr
section
variable {w wr w1 : World} {g : At} {na : Bool} {va vb vr : Value} {n : Nat} {ql rl : List Int}
theorem SW.step (h : SW w g na va vb n ql vr rl wr) (hb : Below wr.heap.size wr w1) : SW w g na va vb n ql vr rl w1 :=
  ⟨h.ok, blk_below h.ba hb, blk_below h.bb hb, blk_below h.bx hb, blk_below h.by_ hb, blk_below h.bm hb, blk_below h.br hb, Kd.R_below h.q hb, Kd.V_below h.r hb, below_step h.below hb⟩
theorem SW.drew (h : SW w g na va vb n ql vr rl wr) : SW w g na va vb n ql vr rl wr.drew := h.step (below_drew1 (Below.refl _ _))
theorem SW.setq (h : SW w g na va vb n ql vr rl wr) (i : Int) (x : Int) : SW w g na va vb n (ql.set i.toNat x) vr rl (wr.setCell ⟨g.q, i.toNat, none⟩ (.int .i64 x)) := by
  have o0 := h.ok.o0
  have o1 := h.ok.o1
  have o2 := h.ok.o2
  have o3 := h.ok.o3
  have o4 := h.ok.o4
  have o5 := h.ok.o5
  have o6 := h.ok.o6
  exact ⟨h.ok, blk_far h.ba (by simp; omega) _, blk_far h.bb (by simp; omega) _, blk_far h.bx (by simp; omega) _, blk_far h.by_ (by simp; omega) _, blk_far h.bm (by simp; omega) _, blk_far h.br (by simp; omega) _,
    Kd.R_putn h.q i x, Kd.V_far h.r (fun k hk => by simp; omega) _, below_set h.below (by omega)⟩
theorem SW.setr (h : SW w g na va vb n ql vr rl wr) {v' : Value} {l' : List Int} (hv : SV wr (fun k => g.r < k) v' l') : SW w g na va vb n ql v' l' ((wr.setCell ⟨g.r, 0, none⟩ (.bool false)).setCell ⟨g.r, 1, none⟩ v') := by
  have o0 := h.ok.o0
  have o1 := h.ok.o1
  have o2 := h.ok.o2
  have o3 := h.ok.o3
  have o4 := h.ok.o4
  have o5 := h.ok.o5
  have o6 := h.ok.o6
  exact ⟨h.ok, blk_far (blk_far h.ba (by simp; omega) _) (by simp; omega) _, blk_far (blk_far h.bb (by simp; omega) _) (by simp; omega) _, blk_far (blk_far h.bx (by simp; omega) _) (by simp; omega) _, blk_far (blk_far h.by_ (by simp; omega) _) (by simp; omega) _, blk_far (blk_far h.bm (by simp; omega) _) (by simp; omega) _,
    blk_put (blk_put h.br 0 _ rfl) 1 _ rfl, Kd.R_far (Kd.R_far h.q (p := ⟨g.r, 0, none⟩) (fun k hk => by simp; omega) _) (p := ⟨g.r, 1, none⟩) (fun k hk => by simp; omega) _,
    Kd.V_far (Kd.V_far hv (p := ⟨g.r, 0, none⟩) (fun k hk => by simp; omega) _) (p := ⟨g.r, 1, none⟩) (fun k hk => by simp; omega) _, below_set (below_set h.below (by omega)) (by omega)⟩
theorem SW.new (h : SW w g na va vb n ql vr rl wr) : g.r < wr.heap.size := blk_lt h.br
theorem SW.qlen (h : SW w g na va vb n ql vr rl wr) : ql.length = n := (Kd.R_reads' h.q).1.symm
/-- Another rest with the same boxes. -/
theorem SW.fresh (h : SW w g na va vb n ql vr rl wr) {P : Nat → Prop} {v' : Value} {l' : List Int} (hv : SV w1 P v' l') (hP : ∀ k, P k → wr.heap.size ≤ k) : SV w1 (fun k => g.r < k) v' l' :=
  Kd.V_mono hv (fun k hk => Nat.lt_of_lt_of_le h.new (hP k hk))
end
theorem size_set (w : World) (p : Addr) (v : Value) : (w.setCell p v).heap.size = w.heap.size := by simp [World.setCell]
/-- The start: the boxes as they were made one behind the other, the digits all 0, the rest 0. -/
theorem sw_start {w W1 W2 W3 W4 W5 W6 W8 : World} {gA gB g4 g5 g6 g8 gq n : Nat} {na : Bool} {va vb : Value}
    (hgA : gA = w.heap.size) (bA : W1.heap[gA]? = some (.cells #[.bool na, va] 24 (0, 0))) (L1 : Below w.heap.size w W1)
    (hgB : gB = W1.heap.size) (bB : W2.heap[gB]? = some (.cells #[.bool false, vb] 24 (0, 0))) (L2 : Below W1.heap.size W1 W2)
    (hg4 : g4 = W2.heap.size) (b4 : W3.heap[g4]? = some (.cells #[.bool false, .slice none 0 0] 24 (0, 0))) (L3 : Below W2.heap.size W2 W3)
    (hg5 : g5 = W3.heap.size) (b5 : W4.heap[g5]? = some (.cells #[.bool false, .slice none 0 0] 24 (0, 0))) (L4 : Below W3.heap.size W3 W4)
    (L5 : Below W4.heap.size W4 W5)
    (hg6 : g6 = W5.heap.size) (b6 : W6.heap[g6]? = some (.cells #[.bool false, .slice none 0 0] 24 (0, 0))) (L6 : Below W5.heap.size W5 W6)
    (hgq : gq = W6.heap.size) (hn : n ≤ 1000)
    (hg8 : g8 = (((W6.setCell ⟨g6, 0, none⟩ (.bool false)).setCell ⟨g6, 1, none⟩ vb).alloc (.cells (madeCells #[.int .i64 0] n) 3)).heap.size)
    (b8 : W8.heap[g8]? = some (.cells #[.bool false, .slice none 0 0] 24 (0, 0)))
    (L8 : Below (((W6.setCell ⟨g6, 0, none⟩ (.bool false)).setCell ⟨g6, 1, none⟩ vb).alloc (.cells (madeCells #[.int .i64 0] n) 3)).heap.size (((W6.setCell ⟨g6, 0, none⟩ (.bool false)).setCell ⟨g6, 1, none⟩ vb).alloc (.cells (madeCells #[.int .i64 0] n) 3)) W8) :
    SW w ⟨gA, gB, g4, g5, g6, gq, g8⟩ na va vb n (List.replicate n 0) (.slice none 0 0) [] W8 := by
  have s1 := blk_lt bA
  have s2 := blk_lt bB
  have s3 := blk_lt b4
  have s4 := blk_lt b5
  have s5 := L5.size
  have s6 := blk_lt b6
  have q6 := L6.size
  have q4 := L4.size
  have q3 := L3.size
  have q2 := L2.size
  have q1 := L1.size
  generalize hX : (W6.setCell ⟨g6, 0, none⟩ (.bool false)).setCell ⟨g6, 1, none⟩ vb = X at *
  have sX : X.heap.size = W6.heap.size := by rw [← hX, size_set, size_set]
  have far : ∀ {g : Nat} {cs : Array Value}, g ≠ g6 → W6.heap[g]? = some (.cells cs 24 (0, 0)) → W8.heap[g]? = some (.cells cs 24 (0, 0)) := by
    intro g cs hne h
    have h2 := blk_far (blk_far h (p := ⟨g6, 0, none⟩) hne (.bool false)) (p := ⟨g6, 1, none⟩) hne vb
    rw [hX] at h2
    exact blk_below (blk_alloc h2 _) L8
  have hm : W8.heap[g6]? = some (.cells #[.bool false, vb] 24 (0, 0)) := by
    have h2 := blk_put (blk_put b6 0 (.bool false) rfl) 1 vb rfl
    rw [hX] at h2
    exact blk_below (blk_alloc h2 _) L8
  have up6 : ∀ {g : Nat} {cs : Array Value}, W4.heap[g]? = some (.cells cs 24 (0, 0)) → W6.heap[g]? = some (.cells cs 24 (0, 0)) := fun h => blk_below (blk_below h L5) L6
  have hs8 : g8 = X.heap.size + 1 := by rw [hg8]; simp
  have hbel : Below w.heap.size w X := by
    have h6 := below_step (below_step (below_step (below_step (below_step L1 L2) L3) L4) L5) L6
    rw [← hX]
    exact below_set (below_set (h6) (by omega)) (by omega)
  have hown := own_made X w.heap.size 3 .i64 n (by have := hbel.size; omega) (by omega)
  refine ⟨⟨by show w.heap.size ≤ gA; omega, by show gA < gB; omega, by show gB < g4; omega, by show g4 < g5; omega, by show g5 < g6; omega, by show g6 < gq; omega, by show gq < g8; omega⟩,
    far (by show gA ≠ g6; omega) (up6 (blk_below (blk_below (blk_below bA L2) L3) L4)), far (by show gB ≠ g6; omega) (up6 (blk_below (blk_below bB L3) L4)),
    far (by show g4 ≠ g6; omega) (up6 (blk_below b4 L4)), far (by show g5 ≠ g6; omega) (up6 b5), hm, b8, ?_, Kd.V_nil _ _ _ _ _, below_step (below_alloc hbel _) L8⟩
  rw [hgq, ← sX]
  have hR : Kd.R (Kd.int .i64) 3 (X.alloc (.cells (madeCells #[.int .i64 0] n) 3)) w.heap.size (fun k => k = X.heap.size) (.slice (some ⟨X.heap.size, 0, none⟩) n n) (List.replicate n 0) := by
    refine Kd.R_of_own ?_ ?_
    · rw [List.length_replicate]; exact hown
    · intro k hk
      have : X.heap.size = k := by simpa [Value.ownBlock] using hk
      exact this.symm
  exact Kd.R_below hR L8
/-! ### Behind the loop: the quotient z has a box of its own. -/
structure Fin where
  b : Nat
  x : Nat
  y : Nat
  m : Nat
  r : Nat
  z : Nat
/-- None of the boxes that are still written. -/
def Fin.Off (g : Fin) (w : World) (k : Nat) : Prop := (k ≠ g.x ∧ k ≠ g.y ∧ k ≠ g.r ∧ k ≠ g.z) ∧ w.heap.size ≤ k
structure Fin.Ok (g : Fin) (w : World) : Prop where
  o1 : w.heap.size ≤ g.b
  o2 : g.b < g.x
  o3 : g.x < g.y
  o4 : g.y < g.m
  o5 : g.m < g.r
  o6 : g.r < g.z
structure SF (w : World) (g : Fin) (vb : Value) (nz : Bool) (vz : Value) (lz : List Int) (nr : Bool) (vr : Value) (lr : List Int) (wr : World) : Prop where
  ok : g.Ok w
  bb : wr.heap[g.b]? = some (.cells #[.bool false, vb] 24 (0, 0))
  bx : wr.heap[g.x]? = some (.cells #[.bool false, .slice none 0 0] 24 (0, 0))
  by_ : wr.heap[g.y]? = some (.cells #[.bool false, .slice none 0 0] 24 (0, 0))
  bm : wr.heap[g.m]? = some (.cells #[.bool false, vb] 24 (0, 0))
  br : wr.heap[g.r]? = some (.cells #[.bool nr, vr] 24 (0, 0))
  bz : wr.heap[g.z]? = some (.cells #[.bool nz, vz] 24 (0, 0))
  z : SV wr (g.Off w) vz lz
  r : SV wr (g.Off w) vr lr
  below : Below w.heap.size w wr
section
variable {w wr w1 : World} {g : Fin} {vb vz vr : Value} {nz nr : Bool} {lz lr : List Int}
theorem SF.step (h : SF w g vb nz vz lz nr vr lr wr) (hb : Below wr.heap.size wr w1) : SF w g vb nz vz lz nr vr lr w1 :=
  ⟨h.ok, blk_below h.bb hb, blk_below h.bx hb, blk_below h.by_ hb, blk_below h.bm hb, blk_below h.br hb, blk_below h.bz hb, Kd.V_below h.z hb, Kd.V_below h.r hb, below_step h.below hb⟩
theorem SF.drew (h : SF w g vb nz vz lz nr vr lr wr) : SF w g vb nz vz lz nr vr lr wr.drew := h.step (below_drew1 (Below.refl _ _))
/-- What is new since wr lies off. -/
theorem SF.off (h : SF w g vb nz vz lz nr vr lr wr) {P : Nat → Prop} {v' : Value} {l' : List Int} (hv : SV w1 P v' l') (hP : ∀ k, P k → g.Off w k ∨ wr.heap.size ≤ k) : SV w1 (g.Off w) v' l' :=
  Kd.V_mono hv (fun k hk => by
    rcases hP k hk with h1 | h1
    · exact h1
    · have a := blk_lt h.bx
      have b := blk_lt h.by_
      have c := blk_lt h.br
      have d := blk_lt h.bz
      have e := h.below.size
      exact ⟨⟨by omega, by omega, by omega, by omega⟩, by omega⟩)
theorem SF.setz (h : SF w g vb nz vz lz nr vr lr wr) {n' : Bool} {v' : Value} {l' : List Int} (hv : SV wr (g.Off w) v' l') : SF w g vb n' v' l' nr vr lr ((wr.setCell ⟨g.z, 0, none⟩ (.bool n')).setCell ⟨g.z, 1, none⟩ v') := by
  obtain ⟨o1, o2, o3, o4, o5, o6⟩ := h.ok
  exact ⟨h.ok, blk_far (blk_far h.bb (by simp; omega) _) (by simp; omega) _, blk_far (blk_far h.bx (by simp; omega) _) (by simp; omega) _, blk_far (blk_far h.by_ (by simp; omega) _) (by simp; omega) _, blk_far (blk_far h.bm (by simp; omega) _) (by simp; omega) _, blk_far (blk_far h.br (by simp; omega) _) (by simp; omega) _,
    blk_put (blk_put h.bz 0 _ rfl) 1 _ rfl, Kd.V_far (Kd.V_far hv (p := ⟨g.z, 0, none⟩) (fun k hk => hk.1.2.2.2) _) (p := ⟨g.z, 1, none⟩) (fun k hk => hk.1.2.2.2) _, Kd.V_far (Kd.V_far h.r (p := ⟨g.z, 0, none⟩) (fun k hk => hk.1.2.2.2) _) (p := ⟨g.z, 1, none⟩) (fun k hk => hk.1.2.2.2) _, below_set (below_set h.below (by omega)) (by omega)⟩
theorem SF.setr (h : SF w g vb nz vz lz nr vr lr wr) {n' : Bool} {v' : Value} {l' : List Int} (hv : SV wr (g.Off w) v' l') : SF w g vb nz vz lz n' v' l' ((wr.setCell ⟨g.r, 0, none⟩ (.bool n')).setCell ⟨g.r, 1, none⟩ v') := by
  obtain ⟨o1, o2, o3, o4, o5, o6⟩ := h.ok
  exact ⟨h.ok, blk_far (blk_far h.bb (by simp; omega) _) (by simp; omega) _, blk_far (blk_far h.bx (by simp; omega) _) (by simp; omega) _, blk_far (blk_far h.by_ (by simp; omega) _) (by simp; omega) _, blk_far (blk_far h.bm (by simp; omega) _) (by simp; omega) _, blk_put (blk_put h.br 0 _ rfl) 1 _ rfl, blk_far (blk_far h.bz (by simp; omega) _) (by simp; omega) _,
    Kd.V_far (Kd.V_far h.z (p := ⟨g.r, 0, none⟩) (fun k hk => hk.1.2.2.1) _) (p := ⟨g.r, 1, none⟩) (fun k hk => hk.1.2.2.1) _, Kd.V_far (Kd.V_far hv (p := ⟨g.r, 0, none⟩) (fun k hk => hk.1.2.2.1) _) (p := ⟨g.r, 1, none⟩) (fun k hk => hk.1.2.2.1) _, below_set (below_set h.below (by omega)) (by omega)⟩
/-- The end: both results are stored. -/
theorem SF.last (h : SF w g vb nz vz lz nr vr lr wr) {w2 : World} (hw : w2 = ((((wr.setCell ⟨g.x, 0, none⟩ (.bool nz)).setCell ⟨g.x, 1, none⟩ vz).setCell ⟨g.y, 0, none⟩ (.bool nr)).setCell ⟨g.y, 1, none⟩ vr)) :
    w2.heap[g.x]? = some (.cells #[.bool nz, vz] 24 (0, 0)) ∧ w2.heap[g.y]? = some (.cells #[.bool nr, vr] 24 (0, 0)) ∧ SV w2 (fun k => w.heap.size ≤ k) vz lz ∧ SV w2 (fun k => w.heap.size ≤ k) vr lr ∧ Below w.heap.size w w2 := by
  obtain ⟨o1, o2, o3, o4, o5, o6⟩ := h.ok
  subst hw
  refine ⟨blk_far (blk_far (blk_put (blk_put h.bx 0 _ rfl) 1 _ rfl) (by simp; omega) _) (by simp; omega) _, blk_put (blk_put (blk_far (blk_far h.by_ (by simp; omega) _) (by simp; omega) _) 0 _ rfl) 1 _ rfl, ?_, ?_, below_set (below_set (below_set (below_set h.below (by omega)) (by omega)) (by omega)) (by omega)⟩
  · exact Kd.V_mono (Kd.V_far (Kd.V_far (Kd.V_far (Kd.V_far h.z (p := ⟨g.x, 0, none⟩) (fun k hk => hk.1.1) _) (p := ⟨g.x, 1, none⟩) (fun k hk => hk.1.1) _) (p := ⟨g.y, 0, none⟩) (fun k hk => hk.1.2.1) _) (p := ⟨g.y, 1, none⟩) (fun k hk => hk.1.2.1) _) (fun k hk => hk.2)
  · exact Kd.V_mono (Kd.V_far (Kd.V_far (Kd.V_far (Kd.V_far h.r (p := ⟨g.x, 0, none⟩) (fun k hk => hk.1.1) _) (p := ⟨g.x, 1, none⟩) (fun k hk => hk.1.1) _) (p := ⟨g.y, 0, none⟩) (fun k hk => hk.1.2.1) _) (p := ⟨g.y, 1, none⟩) (fun k hk => hk.1.2.1) _) (fun k hk => hk.2)
end
/-- From the loop to what follows: trim has handed back z (w2), and z's box is new (w3). -/
theorem SW.fin {w wr w2 w3 : World} {g : At} {na : Bool} {va vb vr : Value} {n : Nat} {ql rl : List Int} (h : SW w g na va vb n ql vr rl wr) {P : Nat → Prop} {nz : Bool} {vz : Value} {lz : List Int} {gz : Nat}
    (hb : Below wr.heap.size wr w2) (hv : SV w2 P vz lz) (hP : ∀ k, P k → k = g.q ∨ wr.heap.size ≤ k) (hgz : gz = w2.heap.size) (hbz : w3.heap[gz]? = some (.cells #[.bool false, .slice none 0 0] 24 (0, 0))) (hb3 : Below w2.heap.size w2 w3) :
    SF w ⟨g.b, g.x, g.y, g.m, g.r, gz⟩ vb nz vz lz false vr rl ((w3.setCell ⟨gz, 0, none⟩ (.bool nz)).setCell ⟨gz, 1, none⟩ vz) := by
  obtain ⟨o0, o1, o2, o3, o4, o5, o6⟩ := h.ok
  have h2 := (h.step hb).step hb3
  have s2 := hb.size
  have s3 := blk_lt h.br
  have s4 := blk_lt h.bx
  have s5 := blk_lt h.by_
  have s6 := h.below.size
  have far : ∀ {k : Nat} {cs : Array Value}, k < wr.heap.size → w3.heap[k]? = some (.cells cs 24 (0, 0)) → ((w3.setCell ⟨gz, 0, none⟩ (.bool nz)).setCell ⟨gz, 1, none⟩ vz).heap[k]? = some (.cells cs 24 (0, 0)) :=
    fun hk hc => blk_far (blk_far hc (p := ⟨gz, 0, none⟩) (by simp; omega) _) (p := ⟨gz, 1, none⟩) (by simp; omega) _
  have hz2 : SV w3 (fun k => (k = g.q ∨ wr.heap.size ≤ k) ∧ k ≠ gz) vz lz := by
    have h3 := Kd.V_below (Kd.V_bound (Kd.V_mono hv hP)) hb3
    exact Kd.V_mono h3 (fun k hk => ⟨hk.1, by have := hk.2; omega⟩)
  have hr2 : SV w3 (fun k => g.r < k ∧ k ≠ gz) vr rl := by
    have h3 := Kd.V_below (Kd.V_bound ((h.step hb).r)) hb3
    exact Kd.V_mono h3 (fun k hk => ⟨hk.1, by have := hk.2; omega⟩)
  refine ⟨⟨by show w.heap.size ≤ g.b; omega, o2, o3, o4, by show g.m < g.r; omega, by show g.r < gz; omega⟩, far (blk_lt h.bb) h2.bb, far s4 h2.bx, far s5 h2.by_, far (blk_lt h.bm) h2.bm, far s3 h2.br, blk_put (blk_put hbz 0 _ rfl) 1 _ rfl, ?_, ?_, below_set (below_set h2.below (by omega)) (by omega)⟩
  · refine Kd.V_mono (Kd.V_far (Kd.V_far hz2 (p := ⟨gz, 0, none⟩) (fun k hk => hk.2) _) (p := ⟨gz, 1, none⟩) (fun k hk => hk.2) _) (fun k hk => ?_)
    obtain ⟨hk1 | hk1, hk2⟩ := hk
    · exact ⟨⟨by show k ≠ g.x; omega, by show k ≠ g.y; omega, by show k ≠ g.r; omega, hk2⟩, by omega⟩
    · exact ⟨⟨by show k ≠ g.x; omega, by show k ≠ g.y; omega, by show k ≠ g.r; omega, hk2⟩, by omega⟩
  · refine Kd.V_mono (Kd.V_far (Kd.V_far hr2 (p := ⟨gz, 0, none⟩) (fun k hk => hk.2) _) (p := ⟨gz, 1, none⟩) (fun k hk => hk.2) _) (fun k hk => ?_)
    obtain ⟨hk1, hk2⟩ := hk
    exact ⟨⟨by show k ≠ g.x; omega, by show k ≠ g.y; omega, by show k ≠ g.r; omega, hk2⟩, by omega⟩
end Go.Proofs.Ytmgcmknobnonhaa.Zed
