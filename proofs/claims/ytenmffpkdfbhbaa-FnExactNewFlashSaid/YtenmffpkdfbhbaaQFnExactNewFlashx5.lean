-- Written by mp.py, a program of this session over the kit's print; the session answers for it, Lean checks it.
import Derived.Test.YtenmffpkdfbhbaaQFnExactNewFlashx0
import Derived.Test.YtenmffpkdfbhbaaQFnExactNewFlashx1
import Derived.Test.YtenmffpkdfbhbaaQFnExactNewFlashx2
import Derived.Test.YtenmffpkdfbhbaaQFnExactNewFlashx3
import Derived.Test.YtenmffpkdfbhbaaQFnExactNewFlashx4
namespace Go.Proofs.Ytenmffpkdfbhbaa.QFnExactNewFlash
open Go.RowKit Go.Proofs.Ytenmffpkdfbhbaa.Hand Go.Proofs.YtenmffpkdfbhbaaW.PrintWords Go.Proofs.YtenmffpkdfbhbaaW.PrintLast Go.Proofs.YtenmffpkdfbhbaaW.PrintMore
attribute [local go_sem] max2_int min2_int max_two min_two max_three min_three max_four min_four   -- for this text's walks alone
set_option linter.unusedVariables false
set_option linter.unusedSimpArgs false

def st8 (w : World) (g : Nat) (c0 c1 c2 c3 c4 c5 c6 c7 : Value) : World := (((((((w.setCell ⟨g, 0, none⟩ c0).setCell ⟨g, 1, none⟩ c1).setCell ⟨g, 2, none⟩ c2).setCell ⟨g, 3, none⟩ c3).setCell ⟨g, 4, none⟩ c4).setCell ⟨g, 5, none⟩ c5).setCell ⟨g, 6, none⟩ c6).setCell ⟨g, 7, none⟩ c7
theorem st8_other (w : World) (g j : Nat) (c0 c1 c2 c3 c4 c5 c6 c7 : Value) (h : j ≠ g) : (st8 w g c0 c1 c2 c3 c4 c5 c6 c7).heap[j]? = w.heap[j]? := by
  unfold st8
  rw [Below.heap_setCell _ ⟨g, 7, none⟩ _ j h, Below.heap_setCell _ ⟨g, 6, none⟩ _ j h, Below.heap_setCell _ ⟨g, 5, none⟩ _ j h, Below.heap_setCell _ ⟨g, 4, none⟩ _ j h, Below.heap_setCell _ ⟨g, 3, none⟩ _ j h, Below.heap_setCell _ ⟨g, 2, none⟩ _ j h, Below.heap_setCell _ ⟨g, 1, none⟩ _ j h, Below.heap_setCell _ ⟨g, 0, none⟩ _ j h]
theorem st8_same {w : World} {g t : Nat} {c0 c1 c2 c3 c4 c5 c6 c7 z0 z1 z2 z3 z4 z5 z6 z7 : Value} (h : w.heap[g]? = some (.cells #[z0, z1, z2, z3, z4, z5, z6, z7] t (0, 0))) : (st8 w g c0 c1 c2 c3 c4 c5 c6 c7).heap[g]? = some (.cells #[c0, c1, c2, c3, c4, c5, c6, c7] t (0, 0)) := by
  unfold st8
  have h1 := heap_setCell_same w g 0 _ t c0 h
  have h2 := heap_setCell_same _ g 1 _ t c1 h1
  have h3 := heap_setCell_same _ g 2 _ t c2 h2
  have h4 := heap_setCell_same _ g 3 _ t c3 h3
  have h5 := heap_setCell_same _ g 4 _ t c4 h4
  have h6 := heap_setCell_same _ g 5 _ t c5 h5
  have h7 := heap_setCell_same _ g 6 _ t c6 h6
  have h8 := heap_setCell_same _ g 7 _ t c7 h7
  simp only [List.setIfInBounds_toArray, List.set_cons_zero, List.set_cons_succ] at h8
  exact h8
theorem st8_below {B : Nat} {a w : World} {g : Nat} {c0 c1 c2 c3 c4 c5 c6 c7 : Value} (h : Below B a w) (hg : B ≤ g) : Below B a (st8 w g c0 c1 c2 c3 c4 c5 c6 c7) := by
  unfold st8
  exact (((((((h.setCell hg _).setCell hg _).setCell hg _).setCell hg _).setCell hg _).setCell hg _).setCell hg _).setCell hg _
structure HeldF (W : World) (B : Nat) (P : Nat → Prop) (g : Nat) (a b c : Int) (l : List (S110)) (d e : Int) (f : Bool) (h : Int) (V : Value) : Prop where
  row : Kd.S k110 110 W B P V l
  box : W.heap[g]? = some (.cells #[.int .i64 a, .int .i64 b, .int .i64 c, V, .int .i64 d, .int .i64 e, .bool f, .int .i64 h] 72 (0, 0))
theorem HeldF.below {W W2 : World} {B : Nat} {P : Nat → Prop} {g : Nat} {a b c : Int} {l : List (S110)} {d e : Int} {f : Bool} {h : Int} {V : Value} (H : HeldF W B P g a b c l d e f h V) (hb : Below W.heap.size W W2) : HeldF W2 B P g a b c l d e f h V := ⟨Kd.S_below H.row hb, blk_below H.box hb⟩
theorem HeldF.kept {W W2 : World} {B : Nat} {P S : Nat → Prop} {g : Nat} {a b c : Int} {l : List (S110)} {d e : Int} {f : Bool} {h : Int} {V : Value} (H : HeldF W B P g a b c l d e f h V) (hk : Kept W W2 S) (h1 : ∀ k, P k → ¬ S k) (h2 : ¬ S g) : HeldF W2 B P g a b c l d e f h V := ⟨Kd.S_kept H.row hk h1, blk_kept H.box hk h2⟩
theorem st8_kept (W : World) (g : Nat) (c0 c1 c2 c3 c4 c5 c6 c7 : Value) : Kept W (st8 W g c0 c1 c2 c3 c4 c5 c6 c7) (fun k => k = g) := by
  unfold st8
  exact (((((((((Kept.refl W (fun k => k = g)).setCell (p := ⟨g, 0, none⟩) (.inl rfl) c0).setCell (p := ⟨g, 1, none⟩) (.inl rfl) c1).setCell (p := ⟨g, 2, none⟩) (.inl rfl) c2).setCell (p := ⟨g, 3, none⟩) (.inl rfl) c3).setCell (p := ⟨g, 4, none⟩) (.inl rfl) c4).setCell (p := ⟨g, 5, none⟩) (.inl rfl) c5).setCell (p := ⟨g, 6, none⟩) (.inl rfl) c6).setCell (p := ⟨g, 7, none⟩) (.inl rfl) c7)
theorem HeldF.make {W0 W1 W2 : World} {B g : Nat} {a b c : Int} {l : List (S110)} {d e : Int} {f : Bool} {h : Int} {V z0 z1 z2 z3 z4 z5 z6 z7 : Value} (h0 : B ≤ W0.heap.size) (hS : Kd.S k110 110 W1 W0.heap.size (fun _ => True) V l) (hg : g = W1.heap.size) (hbox : W2.heap[g]? = some (.cells #[z0, z1, z2, z3, z4, z5, z6, z7] 72 (0, 0))) (hb : Below W1.heap.size W1 W2) : HeldF (st8 W2 g (.int .i64 a) (.int .i64 b) (.int .i64 c) V (.int .i64 d) (.int .i64 e) (.bool f) (.int .i64 h)) B (fun k => W0.heap.size ≤ k ∧ k < g) g a b c l d e f h V := by
  refine ⟨?_, st8_same hbox⟩
  have h1 := Kd.S_mono (ok' := fun k => W0.heap.size ≤ k ∧ k < g) (Kd.S_bound hS) (fun k hk => ⟨hk.2.1, by rw [hg]; exact hk.2.2.1⟩)
  exact Kd.S_lower (Kd.S_kept (Kd.S_below h1 hb) (st8_kept W2 g _ _ _ _ _ _ _ _) (fun k hk h2 => by omega)) h0
theorem eqV (k : Nat) (a0 a1 a2 a4 a5 : Int) (a6 : Bool) (a7 b0 b1 b2 b4 b5 : Int) (b6 : Bool) (b7 : Int) {l m : List (S110)} {W : World} {B1 B2 : Nat} {P1 P2 : Nat → Prop} {V1 V2 : Value} {r : Bool} (h1 : Kd.S k110 110 W B1 P1 V1 l) (h2 : Kd.S k110 110 W B2 P2 V2 m) (h : laws_eqFlash.f k a0 a1 a2 l a4 a5 a6 a7 b0 b1 b2 m b4 b5 b6 b7 = some r) : Calls Try.prog 49 #[.agg #[.int .i64 a0, .int .i64 a1, .int .i64 a2, V1, .int .i64 a4, .int .i64 a5, .bool a6, .int .i64 a7], .agg #[.int .i64 b0, .int .i64 b1, .int .i64 b2, V2, .int .i64 b4, .int .i64 b5, .bool b6, .int .i64 b7]] W fun e w' => e = .returned (.bool r) ∧ Below W.heap.size W w' := by
  obtain ⟨A1, c1, rfl, q1, p1⟩ := Kd.S_reads h1
  obtain ⟨A2, c2, rfl, q2, p2⟩ := Kd.S_reads h2
  exact laws_eqFlash.calls k a0 a1 a2 A1 c1 l a4 a5 a6 a7 b0 b1 b2 A2 c2 m b4 b5 b6 b7 r W p1 q1 p2 q2 h
theorem heldV (k : Nat) (a0 a1 a2 a4 a5 : Int) (a6 : Bool) (a7 b : Int) {l : List (S110)} {W : World} {B1 : Nat} {P1 : Nat → Prop} {V1 : Value} {r : Int} (h1 : Kd.S k110 110 W B1 P1 V1 l) (h : laws_heldFlash.f k a0 a1 a2 l a4 a5 a6 a7 b = some r) : Calls Try.prog 56 #[.agg #[.int .i64 a0, .int .i64 a1, .int .i64 a2, V1, .int .i64 a4, .int .i64 a5, .bool a6, .int .i64 a7], .int .i64 b] W fun e w' => e = .returned (.int .i64 r) ∧ Below W.heap.size W w' := by
  obtain ⟨A1, c1, rfl, q1, p1⟩ := Kd.S_reads h1
  exact laws_heldFlash.calls k a0 a1 a2 A1 c1 l a4 a5 a6 a7 b r W p1 q1 h
def laws_FnExactNewFlash.f (k : Nat) (a0_0 a0_1 a0_2 : Int) : Option Bool := (laws_toGeometry.f a0_0 a0_1 a0_2).bind fun g => (spec_NewFlash.f k g.1 g.2.1 g.2.2).bind fun s => (impl_NewFlash.f k g.1 g.2.1 g.2.2).bind fun i => (laws_eqFlash.f k i.1 i.2.1 i.2.2.1 i.2.2.2.1 i.2.2.2.2.1 i.2.2.2.2.2.1 i.2.2.2.2.2.2.1 i.2.2.2.2.2.2.2.1 s.1 s.2.1 s.2.2.1 s.2.2.2.1 s.2.2.2.2.1 s.2.2.2.2.2.1 s.2.2.2.2.2.2.1 s.2.2.2.2.2.2.2.1).bind fun q => (laws_markBlockS.f k i.2.2.2.1 1).bind fun m => (laws_heldFlash.f k i.1 i.2.1 i.2.2.1 m.2 i.2.2.2.2.1 i.2.2.2.2.2.1 i.2.2.2.2.2.2.1 i.2.2.2.2.2.2.2.1 1).bind fun n => if q = true ∧ i.2.2.2.2.2.2.2.2 = s.2.2.2.2.2.2.2.2 ∧ n = m.1 ∧ 0 ≤ n then some true else some false
set_option maxHeartbeats 8000000 in
set_option maxRecDepth 100000 in
theorem laws_FnExactNewFlash.calls (k : Nat) (a0_0 a0_1 a0_2 : Int) (r : Bool) (w : World) (hT_ : r = true) (h : laws_FnExactNewFlash.f k a0_0 a0_1 a0_2 = some r) :
    Calls Try.prog 14 #[.agg #[.int .i64 a0_0, .int .i64 a0_1, .int .i64 a0_2]] w fun e w' => e = .returned (.bool r) ∧ Below w.heap.size w w' := by
  have hu63 := Try.underlying63
  have hu72 := Try.underlying72
  subst hT_
  unfold laws_FnExactNewFlash.f at h
  obtain ⟨⟨t0, t1, t2⟩, AT, h1⟩ := Option.bind_eq_some_iff.mp h
  dsimp only at h1
  obtain ⟨⟨s0, s1, s2, s3, s4, s5, s6, s7, s8⟩, AS, h2⟩ := Option.bind_eq_some_iff.mp h1
  dsimp only at h2
  obtain ⟨⟨i0, i1, i2, i3, i4, i5, i6, i7, i8⟩, AI, h3⟩ := Option.bind_eq_some_iff.mp h2
  dsimp only at h3
  obtain ⟨q, AE, h4⟩ := Option.bind_eq_some_iff.mp h3
  obtain ⟨⟨m, l2⟩, AM, h5⟩ := Option.bind_eq_some_iff.mp h4
  dsimp only at h5
  obtain ⟨n, AH, h6⟩ := Option.bind_eq_some_iff.mp h5
  clear h h1 h2 h3 h4 h5
  have h := h6
  clear h6
  split at h
  case isFalse => exact absurd h (by simp)
  case isTrue hc =>
  clear h
  obtain ⟨rfl, rfl, rfl, hm⟩ := hc
  replace AT := Aside0.mk AT
  replace AS := Aside0.mk AS
  replace AI := Aside0.mk AI
  replace AE := Aside0.mk AE
  replace AM := Aside0.mk AM
  replace AH := Aside0.mk AH
  have q1 : (i8 != i8) = false := by simp
  have q2 : decide (n < 0) = false := decide_eq_false (by omega)
  have q3 : (n != n) = false := by simp
  clear hm
  go_enter Try.func14, Try.ntmps14
  go_upto_region 1 with ((with_reducible refine gate_dst (N := 1) rfl ?_); refine box_event ?hg (N := 1) ?hd (cs := #[.int .i64 a0_0, .int .i64 a0_1, .int .i64 a0_2]) (t := 63) ?hr ?_; (case hd => rfl); (case hg => rfl); (case hr => first | (go_simp; done) | (go_simp; rfl)); intro g1 hg1 w0 hxg1 hbg1; have z0 := 0; clear z0; have zgg1 := Aside0.mk hg1; have zxg1 := Aside0.mk hxg1; have zbg1 := Aside0.mk hbg1; clear hg1 hxg1 hbg1)
  have BG := zxg1
  have HB := zbg1
  have HG1 : Aside0 (g1 < w0.heap.size) := ⟨blk_lt BG.out⟩
  clear zxg1 zbg1 zgg1
  have c1_0 : w0.cell? ⟨g1, 0, none⟩ = some (.int .i64 a0_0) := (blk_cell BG.out 0).trans rfl
  have c1_1 : w0.cell? ⟨g1, 1, none⟩ = some (.int .i64 a0_1) := (blk_cell BG.out 1).trans rfl
  have c1_2 : w0.cell? ⟨g1, 2, none⟩ = some (.int .i64 a0_2) := (blk_cell BG.out 2).trans rfl
  have f1_0 := blk_frozen BG.out 0
  have f1_1 := blk_frozen BG.out 1
  have f1_2 := blk_frozen BG.out 2
  go_upto_region 2 with (first | (go_at_call 53; refine (laws_toGeometry.calls a0_0 a0_1 a0_2 t0 t1 t2 _ AT.out).mono ?_; rintro e w1 ⟨rfl, hw1⟩) | (go_at_call 52; refine (spec_NewFlash.calls k t0 t1 t2 s0 s1 s2 s3 s4 s5 s6 s7 i8 w1 AS.out).mono ?_; rintro e w2 ⟨Vw, rfl, hsVw, hbVw⟩; obtain ⟨AVw, kVw, eVw⟩ := Kd.S_slice hsVw; generalize hnVw : s3.length = nVw at eVw; subst eVw) | ((with_reducible refine gate_dst (N := 3) rfl ?_); refine box_event ?hg (N := 3) ?hd (cs := #[.int .i64 0, .int .i64 0, .int .i64 0, .slice none 0 0, .int .i64 0, .int .i64 0, .bool false, .int .i64 0]) (t := 72) ?hr ?_; (case hd => rfl); (case hg => rfl); (case hr => first | (go_simp; done) | (go_simp; rfl)); intro g3 hg3 w3 hxg3 hbg3; have cg3_0 : w3.cell? ⟨g3, 0, none⟩ = some (.int .i64 0) := (blk_cell hxg3 0).trans rfl; have fg3_0 := blk_frozen hxg3 0; have cg3_1 : w3.cell? ⟨g3, 1, none⟩ = some (.int .i64 0) := (blk_cell hxg3 1).trans rfl; have fg3_1 := blk_frozen hxg3 1; have cg3_2 : w3.cell? ⟨g3, 2, none⟩ = some (.int .i64 0) := (blk_cell hxg3 2).trans rfl; have fg3_2 := blk_frozen hxg3 2; have cg3_3 : w3.cell? ⟨g3, 3, none⟩ = some (.slice none 0 0) := (blk_cell hxg3 3).trans rfl; have fg3_3 := blk_frozen hxg3 3; have cg3_4 : w3.cell? ⟨g3, 4, none⟩ = some (.int .i64 0) := (blk_cell hxg3 4).trans rfl; have fg3_4 := blk_frozen hxg3 4; have cg3_5 : w3.cell? ⟨g3, 5, none⟩ = some (.int .i64 0) := (blk_cell hxg3 5).trans rfl; have fg3_5 := blk_frozen hxg3 5; have cg3_6 : w3.cell? ⟨g3, 6, none⟩ = some (.bool false) := (blk_cell hxg3 6).trans rfl; have fg3_6 := blk_frozen hxg3 6; have cg3_7 : w3.cell? ⟨g3, 7, none⟩ = some (.int .i64 0) := (blk_cell hxg3 7).trans rfl; have fg3_7 := blk_frozen hxg3 7; have zgg3 := Aside0.mk hg3; have zxg3 := Aside0.mk hxg3; have zbg3 := Aside0.mk hbg3; clear hg3 hxg3 hbg3))
  clear c1_0 f1_0 c1_1 f1_1 c1_2 f1_2
  clear cg3_0 fg3_0 cg3_1 fg3_1 cg3_2 fg3_2 cg3_3 fg3_3 cg3_4 fg3_4 cg3_5 fg3_5 cg3_6 fg3_6 cg3_7 fg3_7
  have HHg3 := Aside0.mk (HeldF.make (B := w.heap.size) (a := s0) (b := s1) (c := s2) (d := s4) (e := s5) (f := s6) (h := s7) (Nat.le_trans (below_size HB.out) hw1.size) hsVw zgg3.out zxg3.out zbg3.out)
  have hlog3 := Nat.le_trans hw1.size (Nat.le_refl _)
  have HGg3 : Aside0 (w0.heap.size ≤ w1.heap.size ∧ w1.heap.size ≤ g3) := ⟨⟨hw1.size, by rw [zgg3.out]; exact hbVw.size⟩⟩
  have hz : Below w0.heap.size w0 (st8 w3 g3 (.int .i64 s0) (.int .i64 s1) (.int .i64 s2) (.slice AVw nVw kVw) (.int .i64 s4) (.int .i64 s5) (.bool s6) (.int .i64 s7)) := st8_below (below_step (below_step hw1 hbVw) zbg3.out) (Nat.le_trans HGg3.out.1 HGg3.out.2)
  show Code.wp _ _ _ _ (st8 w3 g3 (.int .i64 s0) (.int .i64 s1) (.int .i64 s2) (.slice AVw nVw kVw) (.int .i64 s4) (.int .i64 s5) (.bool s6) (.int .i64 s7))
  generalize st8 w3 g3 (.int .i64 s0) (.int .i64 s1) (.int .i64 s2) (.slice AVw nVw kVw) (.int .i64 s4) (.int .i64 s5) (.bool s6) (.int .i64 s7) = w4 at HHg3 hz ⊢
  have BG' := Aside0.mk (blk_below BG.out hz)
  have HB' := Aside0.mk (below_step HB.out hz)
  clear BG HB
  have BG := Aside0.mk BG'.out
  have HB := Aside0.mk HB'.out
  clear BG' HB'
  clear hz hsVw zgg3 zxg3 zbg3 hw1 hbVw hlog3
  have c1_0 : w4.cell? ⟨g1, 0, none⟩ = some (.int .i64 a0_0) := (blk_cell BG.out 0).trans rfl
  have c1_1 : w4.cell? ⟨g1, 1, none⟩ = some (.int .i64 a0_1) := (blk_cell BG.out 1).trans rfl
  have c1_2 : w4.cell? ⟨g1, 2, none⟩ = some (.int .i64 a0_2) := (blk_cell BG.out 2).trans rfl
  have f1_0 := blk_frozen BG.out 0
  have f1_1 := blk_frozen BG.out 1
  have f1_2 := blk_frozen BG.out 2
  go_upto_region 3 with (first | (go_at_call 53; refine (laws_toGeometry.calls a0_0 a0_1 a0_2 t0 t1 t2 _ AT.out).mono ?_; rintro e w5 ⟨rfl, hw5⟩) | (go_at_call 54; refine (impl_NewFlash.calls k t0 t1 t2 i0 i1 i2 i3 i4 i5 i6 i7 i8 w5 AI.out).mono ?_; rintro e w6 ⟨Vg, rfl, hsVg, hbVg⟩; obtain ⟨AVg, kVg, eVg⟩ := Kd.S_slice hsVg; generalize hnVg : i3.length = nVg at eVg; subst eVg) | ((with_reducible refine gate_dst (N := 5) rfl ?_); refine box_event ?hg (N := 5) ?hd (cs := #[.int .i64 0, .int .i64 0, .int .i64 0, .slice none 0 0, .int .i64 0, .int .i64 0, .bool false, .int .i64 0]) (t := 72) ?hr ?_; (case hd => rfl); (case hg => rfl); (case hr => first | (go_simp; done) | (go_simp; rfl)); intro g5 hg5 w7 hxg5 hbg5; have cg5_0 : w7.cell? ⟨g5, 0, none⟩ = some (.int .i64 0) := (blk_cell hxg5 0).trans rfl; have fg5_0 := blk_frozen hxg5 0; have cg5_1 : w7.cell? ⟨g5, 1, none⟩ = some (.int .i64 0) := (blk_cell hxg5 1).trans rfl; have fg5_1 := blk_frozen hxg5 1; have cg5_2 : w7.cell? ⟨g5, 2, none⟩ = some (.int .i64 0) := (blk_cell hxg5 2).trans rfl; have fg5_2 := blk_frozen hxg5 2; have cg5_3 : w7.cell? ⟨g5, 3, none⟩ = some (.slice none 0 0) := (blk_cell hxg5 3).trans rfl; have fg5_3 := blk_frozen hxg5 3; have cg5_4 : w7.cell? ⟨g5, 4, none⟩ = some (.int .i64 0) := (blk_cell hxg5 4).trans rfl; have fg5_4 := blk_frozen hxg5 4; have cg5_5 : w7.cell? ⟨g5, 5, none⟩ = some (.int .i64 0) := (blk_cell hxg5 5).trans rfl; have fg5_5 := blk_frozen hxg5 5; have cg5_6 : w7.cell? ⟨g5, 6, none⟩ = some (.bool false) := (blk_cell hxg5 6).trans rfl; have fg5_6 := blk_frozen hxg5 6; have cg5_7 : w7.cell? ⟨g5, 7, none⟩ = some (.int .i64 0) := (blk_cell hxg5 7).trans rfl; have fg5_7 := blk_frozen hxg5 7; have zgg5 := Aside0.mk hg5; have zxg5 := Aside0.mk hxg5; have zbg5 := Aside0.mk hbg5; clear hg5 hxg5 hbg5))
  clear c1_0 f1_0 c1_1 f1_1 c1_2 f1_2
  clear cg5_0 fg5_0 cg5_1 fg5_1 cg5_2 fg5_2 cg5_3 fg5_3 cg5_4 fg5_4 cg5_5 fg5_5 cg5_6 fg5_6 cg5_7 fg5_7
  have blt3 : Aside0 (g3 < w5.heap.size) := ⟨Nat.lt_of_lt_of_le (blk_lt HHg3.out.box) hw5.size⟩
  have HHg5 := Aside0.mk (HeldF.make (B := w.heap.size) (a := i0) (b := i1) (c := i2) (d := i4) (e := i5) (f := i6) (h := i7) (Nat.le_trans (below_size HB.out) hw5.size) hsVg zgg5.out zxg5.out zbg5.out)
  have hlog5 := Nat.le_trans hw5.size (Nat.le_refl _)
  have HGg5 : Aside0 (w4.heap.size ≤ w5.heap.size ∧ w5.heap.size ≤ g5) := ⟨⟨hw5.size, by rw [zgg5.out]; exact hbVg.size⟩⟩
  have hz : Below w4.heap.size w4 (st8 w7 g5 (.int .i64 i0) (.int .i64 i1) (.int .i64 i2) (.slice AVg nVg kVg) (.int .i64 i4) (.int .i64 i5) (.bool i6) (.int .i64 i7)) := st8_below (below_step (below_step hw5 hbVg) zbg5.out) (Nat.le_trans HGg5.out.1 HGg5.out.2)
  show Code.wp _ _ _ _ (st8 w7 g5 (.int .i64 i0) (.int .i64 i1) (.int .i64 i2) (.slice AVg nVg kVg) (.int .i64 i4) (.int .i64 i5) (.bool i6) (.int .i64 i7))
  generalize st8 w7 g5 (.int .i64 i0) (.int .i64 i1) (.int .i64 i2) (.slice AVg nVg kVg) (.int .i64 i4) (.int .i64 i5) (.bool i6) (.int .i64 i7) = w8 at HHg5 hz ⊢
  have BG' := Aside0.mk (blk_below BG.out hz)
  have HB' := Aside0.mk (below_step HB.out hz)
  clear BG HB
  have BG := Aside0.mk BG'.out
  have HB := Aside0.mk HB'.out
  clear BG' HB'
  have HHg3' := Aside0.mk (HeldF.below HHg3.out hz)
  clear HHg3
  have HHg3 := Aside0.mk HHg3'.out
  clear HHg3'
  clear hz hsVg zgg5 zxg5 zbg5 hw5 hbVg hlog5
  have cg3_0 : w8.cell? ⟨g3, 0, none⟩ = some (.int .i64 s0) := (blk_cell HHg3.out.box 0).trans rfl
  have cg3_1 : w8.cell? ⟨g3, 1, none⟩ = some (.int .i64 s1) := (blk_cell HHg3.out.box 1).trans rfl
  have cg3_2 : w8.cell? ⟨g3, 2, none⟩ = some (.int .i64 s2) := (blk_cell HHg3.out.box 2).trans rfl
  have cg3_3 : w8.cell? ⟨g3, 3, none⟩ = some (.slice AVw nVw kVw) := (blk_cell HHg3.out.box 3).trans rfl
  have cg3_4 : w8.cell? ⟨g3, 4, none⟩ = some (.int .i64 s4) := (blk_cell HHg3.out.box 4).trans rfl
  have cg3_5 : w8.cell? ⟨g3, 5, none⟩ = some (.int .i64 s5) := (blk_cell HHg3.out.box 5).trans rfl
  have cg3_6 : w8.cell? ⟨g3, 6, none⟩ = some (.bool s6) := (blk_cell HHg3.out.box 6).trans rfl
  have cg3_7 : w8.cell? ⟨g3, 7, none⟩ = some (.int .i64 s7) := (blk_cell HHg3.out.box 7).trans rfl
  have fg3_0 := blk_frozen HHg3.out.box 0
  have fg3_1 := blk_frozen HHg3.out.box 1
  have fg3_2 := blk_frozen HHg3.out.box 2
  have fg3_3 := blk_frozen HHg3.out.box 3
  have fg3_4 := blk_frozen HHg3.out.box 4
  have fg3_5 := blk_frozen HHg3.out.box 5
  have fg3_6 := blk_frozen HHg3.out.box 6
  have fg3_7 := blk_frozen HHg3.out.box 7
  have cg5_0 : w8.cell? ⟨g5, 0, none⟩ = some (.int .i64 i0) := (blk_cell HHg5.out.box 0).trans rfl
  have cg5_1 : w8.cell? ⟨g5, 1, none⟩ = some (.int .i64 i1) := (blk_cell HHg5.out.box 1).trans rfl
  have cg5_2 : w8.cell? ⟨g5, 2, none⟩ = some (.int .i64 i2) := (blk_cell HHg5.out.box 2).trans rfl
  have cg5_3 : w8.cell? ⟨g5, 3, none⟩ = some (.slice AVg nVg kVg) := (blk_cell HHg5.out.box 3).trans rfl
  have cg5_4 : w8.cell? ⟨g5, 4, none⟩ = some (.int .i64 i4) := (blk_cell HHg5.out.box 4).trans rfl
  have cg5_5 : w8.cell? ⟨g5, 5, none⟩ = some (.int .i64 i5) := (blk_cell HHg5.out.box 5).trans rfl
  have cg5_6 : w8.cell? ⟨g5, 6, none⟩ = some (.bool i6) := (blk_cell HHg5.out.box 6).trans rfl
  have cg5_7 : w8.cell? ⟨g5, 7, none⟩ = some (.int .i64 i7) := (blk_cell HHg5.out.box 7).trans rfl
  have fg5_0 := blk_frozen HHg5.out.box 0
  have fg5_1 := blk_frozen HHg5.out.box 1
  have fg5_2 := blk_frozen HHg5.out.box 2
  have fg5_3 := blk_frozen HHg5.out.box 3
  have fg5_4 := blk_frozen HHg5.out.box 4
  have fg5_5 := blk_frozen HHg5.out.box 5
  have fg5_6 := blk_frozen HHg5.out.box 6
  have fg5_7 := blk_frozen HHg5.out.box 7
  go_upto_region 6 with (go_at_call 49; refine (eqV k i0 i1 i2 i4 i5 i6 i7 s0 s1 s2 s4 s5 s6 s7 HHg5.out.row HHg3.out.row AE.out).mono ?_; rintro e w9 ⟨rfl, hb9⟩; have BG' := Aside0.mk (blk_below BG.out hb9); have HB' := Aside0.mk (below_step HB.out hb9); clear BG HB; have BG := Aside0.mk BG'.out; have HB := Aside0.mk HB'.out; clear BG' HB'; have HHg3' := Aside0.mk (HeldF.below HHg3.out hb9); clear HHg3; have HHg3 := Aside0.mk HHg3'.out; clear HHg3'; have HHg5' := Aside0.mk (HeldF.below HHg5.out hb9); clear HHg5; have HHg5 := Aside0.mk HHg5'.out; clear HHg5'; clear hb9)
  clear cg3_0 fg3_0 cg3_1 fg3_1 cg3_2 fg3_2 cg3_3 fg3_3 cg3_4 fg3_4 cg3_5 fg3_5 cg3_6 fg3_6 cg3_7 fg3_7
  clear cg5_0 fg5_0 cg5_1 fg5_1 cg5_2 fg5_2 cg5_3 fg5_3 cg5_4 fg5_4 cg5_5 fg5_5 cg5_6 fg5_6 cg5_7 fg5_7
  have cg5_0 : w9.cell? ⟨g5, 0, none⟩ = some (.int .i64 i0) := (blk_cell HHg5.out.box 0).trans rfl
  have cg5_1 : w9.cell? ⟨g5, 1, none⟩ = some (.int .i64 i1) := (blk_cell HHg5.out.box 1).trans rfl
  have cg5_2 : w9.cell? ⟨g5, 2, none⟩ = some (.int .i64 i2) := (blk_cell HHg5.out.box 2).trans rfl
  have cg5_3 : w9.cell? ⟨g5, 3, none⟩ = some (.slice AVg nVg kVg) := (blk_cell HHg5.out.box 3).trans rfl
  have cg5_4 : w9.cell? ⟨g5, 4, none⟩ = some (.int .i64 i4) := (blk_cell HHg5.out.box 4).trans rfl
  have cg5_5 : w9.cell? ⟨g5, 5, none⟩ = some (.int .i64 i5) := (blk_cell HHg5.out.box 5).trans rfl
  have cg5_6 : w9.cell? ⟨g5, 6, none⟩ = some (.bool i6) := (blk_cell HHg5.out.box 6).trans rfl
  have cg5_7 : w9.cell? ⟨g5, 7, none⟩ = some (.int .i64 i7) := (blk_cell HHg5.out.box 7).trans rfl
  have fg5_0 := blk_frozen HHg5.out.box 0
  have fg5_1 := blk_frozen HHg5.out.box 1
  have fg5_2 := blk_frozen HHg5.out.box 2
  have fg5_3 := blk_frozen HHg5.out.box 3
  have fg5_4 := blk_frozen HHg5.out.box 4
  have fg5_5 := blk_frozen HHg5.out.box 5
  have fg5_6 := blk_frozen HHg5.out.box 6
  have fg5_7 := blk_frozen HHg5.out.box 7
  go_upto_region 8 with (go_at_call 55; refine (laws_markFlash.calls k (fun k_ => w5.heap.size ≤ k_ ∧ k_ < g5) i0 i1 i2 (.slice AVg nVg kVg) i3 i4 i5 i6 i7 1 n l2 w _ HB.out HHg5.out.row AM.out).mono ?_; rintro e w10 ⟨rfl, hy, hby, hky⟩)
  clear cg5_0 fg5_0 cg5_1 fg5_1 cg5_2 fg5_2 cg5_3 fg5_3 cg5_4 fg5_4 cg5_5 fg5_5 cg5_6 fg5_6 cg5_7 fg5_7
  have HY : Aside0 (HeldF w10 w.heap.size (fun k_ => (w5.heap.size ≤ k_ ∧ k_ < g5) ∨ w9.heap.size ≤ k_) g5 i0 i1 i2 l2 i4 i5 i6 i7 (.slice AVg nVg kVg)) := ⟨⟨hy, blk_kept HHg5.out.box hky (fun h_ => absurd h_.2 (Nat.lt_irrefl _))⟩⟩
  have HW : Aside0 (HeldF w10 w.heap.size (fun k_ => w1.heap.size ≤ k_ ∧ k_ < g3) g3 s0 s1 s2 s3 s4 s5 s6 s7 (.slice AVw nVw kVw)) := ⟨HeldF.kept HHg3.out hky (fun k_ h1_ h2_ => by have := HGg5.out; have := HGg3.out; have := blt3.out; omega) (fun h_ => by have := HGg5.out; have := blt3.out; omega)⟩
  have BY := Aside0.mk (blk_kept BG.out hky (fun h_ => by have := HGg5.out; have := HGg3.out; have := HG1.out; have := blt3.out; omega))
  have BB := Aside0.mk hby
  clear hy hby hky HHg3 HHg5 BG HB
  have HHg3 := Aside0.mk HW.out
  have HHg5 := Aside0.mk HY.out
  have BG := Aside0.mk BY.out
  have HB := Aside0.mk BB.out
  clear HW HY BY BB
  have cg5_0 : w10.cell? ⟨g5, 0, none⟩ = some (.int .i64 i0) := (blk_cell HHg5.out.box 0).trans rfl
  have cg5_1 : w10.cell? ⟨g5, 1, none⟩ = some (.int .i64 i1) := (blk_cell HHg5.out.box 1).trans rfl
  have cg5_2 : w10.cell? ⟨g5, 2, none⟩ = some (.int .i64 i2) := (blk_cell HHg5.out.box 2).trans rfl
  have cg5_3 : w10.cell? ⟨g5, 3, none⟩ = some (.slice AVg nVg kVg) := (blk_cell HHg5.out.box 3).trans rfl
  have cg5_4 : w10.cell? ⟨g5, 4, none⟩ = some (.int .i64 i4) := (blk_cell HHg5.out.box 4).trans rfl
  have cg5_5 : w10.cell? ⟨g5, 5, none⟩ = some (.int .i64 i5) := (blk_cell HHg5.out.box 5).trans rfl
  have cg5_6 : w10.cell? ⟨g5, 6, none⟩ = some (.bool i6) := (blk_cell HHg5.out.box 6).trans rfl
  have cg5_7 : w10.cell? ⟨g5, 7, none⟩ = some (.int .i64 i7) := (blk_cell HHg5.out.box 7).trans rfl
  have fg5_0 := blk_frozen HHg5.out.box 0
  have fg5_1 := blk_frozen HHg5.out.box 1
  have fg5_2 := blk_frozen HHg5.out.box 2
  have fg5_3 := blk_frozen HHg5.out.box 3
  have fg5_4 := blk_frozen HHg5.out.box 4
  have fg5_5 := blk_frozen HHg5.out.box 5
  have fg5_6 := blk_frozen HHg5.out.box 6
  have fg5_7 := blk_frozen HHg5.out.box 7
  go_upto_region 13 with (go_at_call 56; refine (heldV k i0 i1 i2 i4 i5 i6 i7 1 HHg5.out.row AH.out).mono ?_; rintro e w11 ⟨rfl, hb11⟩; have BG' := Aside0.mk (blk_below BG.out hb11); have HB' := Aside0.mk (below_step HB.out hb11); clear BG HB; have BG := Aside0.mk BG'.out; have HB := Aside0.mk HB'.out; clear BG' HB'; have HHg3' := Aside0.mk (HeldF.below HHg3.out hb11); clear HHg3; have HHg3 := Aside0.mk HHg3'.out; clear HHg3'; have HHg5' := Aside0.mk (HeldF.below HHg5.out hb11); clear HHg5; have HHg5 := Aside0.mk HHg5'.out; clear HHg5'; clear hb11)
  clear cg5_0 fg5_0 cg5_1 fg5_1 cg5_2 fg5_2 cg5_3 fg5_3 cg5_4 fg5_4 cg5_5 fg5_5 cg5_6 fg5_6 cg5_7 fg5_7
  have c1_0 : w11.cell? ⟨g1, 0, none⟩ = some (.int .i64 a0_0) := (blk_cell BG.out 0).trans rfl
  have c1_1 : w11.cell? ⟨g1, 1, none⟩ = some (.int .i64 a0_1) := (blk_cell BG.out 1).trans rfl
  have c1_2 : w11.cell? ⟨g1, 2, none⟩ = some (.int .i64 a0_2) := (blk_cell BG.out 2).trans rfl
  have f1_0 := blk_frozen BG.out 0
  have f1_1 := blk_frozen BG.out 1
  have f1_2 := blk_frozen BG.out 2
  go_upto_region 14 with (first | (go_at_call 53; refine (laws_toGeometry.calls a0_0 a0_1 a0_2 t0 t1 t2 _ AT.out).mono ?_; rintro e w12 ⟨rfl, hw12⟩) | (go_at_call 54; refine (impl_NewFlash.calls k t0 t1 t2 i0 i1 i2 i3 i4 i5 i6 i7 i8 w12 AI.out).mono ?_; rintro e w13 ⟨Vh, rfl, hsVh, hbVh⟩; obtain ⟨AVh, kVh, eVh⟩ := Kd.S_slice hsVh; generalize hnVh : i3.length = nVh at eVh; subst eVh) | ((with_reducible refine gate_dst (N := 9) rfl ?_); refine box_event ?hg (N := 9) ?hd (cs := #[.int .i64 0, .int .i64 0, .int .i64 0, .slice none 0 0, .int .i64 0, .int .i64 0, .bool false, .int .i64 0]) (t := 72) ?hr ?_; (case hd => rfl); (case hg => rfl); (case hr => first | (go_simp; done) | (go_simp; rfl)); intro g9 hg9 w14 hxg9 hbg9; have cg9_0 : w14.cell? ⟨g9, 0, none⟩ = some (.int .i64 0) := (blk_cell hxg9 0).trans rfl; have fg9_0 := blk_frozen hxg9 0; have cg9_1 : w14.cell? ⟨g9, 1, none⟩ = some (.int .i64 0) := (blk_cell hxg9 1).trans rfl; have fg9_1 := blk_frozen hxg9 1; have cg9_2 : w14.cell? ⟨g9, 2, none⟩ = some (.int .i64 0) := (blk_cell hxg9 2).trans rfl; have fg9_2 := blk_frozen hxg9 2; have cg9_3 : w14.cell? ⟨g9, 3, none⟩ = some (.slice none 0 0) := (blk_cell hxg9 3).trans rfl; have fg9_3 := blk_frozen hxg9 3; have cg9_4 : w14.cell? ⟨g9, 4, none⟩ = some (.int .i64 0) := (blk_cell hxg9 4).trans rfl; have fg9_4 := blk_frozen hxg9 4; have cg9_5 : w14.cell? ⟨g9, 5, none⟩ = some (.int .i64 0) := (blk_cell hxg9 5).trans rfl; have fg9_5 := blk_frozen hxg9 5; have cg9_6 : w14.cell? ⟨g9, 6, none⟩ = some (.bool false) := (blk_cell hxg9 6).trans rfl; have fg9_6 := blk_frozen hxg9 6; have cg9_7 : w14.cell? ⟨g9, 7, none⟩ = some (.int .i64 0) := (blk_cell hxg9 7).trans rfl; have fg9_7 := blk_frozen hxg9 7; have zgg9 := Aside0.mk hg9; have zxg9 := Aside0.mk hxg9; have zbg9 := Aside0.mk hbg9; clear hg9 hxg9 hbg9))
  clear c1_0 f1_0 c1_1 f1_1 c1_2 f1_2
  clear cg9_0 fg9_0 cg9_1 fg9_1 cg9_2 fg9_2 cg9_3 fg9_3 cg9_4 fg9_4 cg9_5 fg9_5 cg9_6 fg9_6 cg9_7 fg9_7
  have HHg9 := Aside0.mk (HeldF.make (B := w.heap.size) (a := i0) (b := i1) (c := i2) (d := i4) (e := i5) (f := i6) (h := i7) (Nat.le_trans (below_size HB.out) hw12.size) hsVh zgg9.out zxg9.out zbg9.out)
  have hlog9 := Nat.le_trans hw12.size (Nat.le_refl _)
  have HGg9 : Aside0 (w11.heap.size ≤ w12.heap.size ∧ w12.heap.size ≤ g9) := ⟨⟨hw12.size, by rw [zgg9.out]; exact hbVh.size⟩⟩
  have hz : Below w11.heap.size w11 (st8 w14 g9 (.int .i64 i0) (.int .i64 i1) (.int .i64 i2) (.slice AVh nVh kVh) (.int .i64 i4) (.int .i64 i5) (.bool i6) (.int .i64 i7)) := st8_below (below_step (below_step hw12 hbVh) zbg9.out) (Nat.le_trans HGg9.out.1 HGg9.out.2)
  show Code.wp _ _ _ _ (st8 w14 g9 (.int .i64 i0) (.int .i64 i1) (.int .i64 i2) (.slice AVh nVh kVh) (.int .i64 i4) (.int .i64 i5) (.bool i6) (.int .i64 i7))
  generalize st8 w14 g9 (.int .i64 i0) (.int .i64 i1) (.int .i64 i2) (.slice AVh nVh kVh) (.int .i64 i4) (.int .i64 i5) (.bool i6) (.int .i64 i7) = w15 at HHg9 hz ⊢
  have BG' := Aside0.mk (blk_below BG.out hz)
  have HB' := Aside0.mk (below_step HB.out hz)
  clear BG HB
  have BG := Aside0.mk BG'.out
  have HB := Aside0.mk HB'.out
  clear BG' HB'
  have HHg3' := Aside0.mk (HeldF.below HHg3.out hz)
  clear HHg3
  have HHg3 := Aside0.mk HHg3'.out
  clear HHg3'
  have HHg5' := Aside0.mk (HeldF.below HHg5.out hz)
  clear HHg5
  have HHg5 := Aside0.mk HHg5'.out
  clear HHg5'
  clear hz hsVh zgg9 zxg9 zbg9 hw12 hbVh hlog9
  have cg3_0 : w15.cell? ⟨g3, 0, none⟩ = some (.int .i64 s0) := (blk_cell HHg3.out.box 0).trans rfl
  have cg3_1 : w15.cell? ⟨g3, 1, none⟩ = some (.int .i64 s1) := (blk_cell HHg3.out.box 1).trans rfl
  have cg3_2 : w15.cell? ⟨g3, 2, none⟩ = some (.int .i64 s2) := (blk_cell HHg3.out.box 2).trans rfl
  have cg3_3 : w15.cell? ⟨g3, 3, none⟩ = some (.slice AVw nVw kVw) := (blk_cell HHg3.out.box 3).trans rfl
  have cg3_4 : w15.cell? ⟨g3, 4, none⟩ = some (.int .i64 s4) := (blk_cell HHg3.out.box 4).trans rfl
  have cg3_5 : w15.cell? ⟨g3, 5, none⟩ = some (.int .i64 s5) := (blk_cell HHg3.out.box 5).trans rfl
  have cg3_6 : w15.cell? ⟨g3, 6, none⟩ = some (.bool s6) := (blk_cell HHg3.out.box 6).trans rfl
  have cg3_7 : w15.cell? ⟨g3, 7, none⟩ = some (.int .i64 s7) := (blk_cell HHg3.out.box 7).trans rfl
  have fg3_0 := blk_frozen HHg3.out.box 0
  have fg3_1 := blk_frozen HHg3.out.box 1
  have fg3_2 := blk_frozen HHg3.out.box 2
  have fg3_3 := blk_frozen HHg3.out.box 3
  have fg3_4 := blk_frozen HHg3.out.box 4
  have fg3_5 := blk_frozen HHg3.out.box 5
  have fg3_6 := blk_frozen HHg3.out.box 6
  have fg3_7 := blk_frozen HHg3.out.box 7
  have cg9_0 : w15.cell? ⟨g9, 0, none⟩ = some (.int .i64 i0) := (blk_cell HHg9.out.box 0).trans rfl
  have cg9_1 : w15.cell? ⟨g9, 1, none⟩ = some (.int .i64 i1) := (blk_cell HHg9.out.box 1).trans rfl
  have cg9_2 : w15.cell? ⟨g9, 2, none⟩ = some (.int .i64 i2) := (blk_cell HHg9.out.box 2).trans rfl
  have cg9_3 : w15.cell? ⟨g9, 3, none⟩ = some (.slice AVh nVh kVh) := (blk_cell HHg9.out.box 3).trans rfl
  have cg9_4 : w15.cell? ⟨g9, 4, none⟩ = some (.int .i64 i4) := (blk_cell HHg9.out.box 4).trans rfl
  have cg9_5 : w15.cell? ⟨g9, 5, none⟩ = some (.int .i64 i5) := (blk_cell HHg9.out.box 5).trans rfl
  have cg9_6 : w15.cell? ⟨g9, 6, none⟩ = some (.bool i6) := (blk_cell HHg9.out.box 6).trans rfl
  have cg9_7 : w15.cell? ⟨g9, 7, none⟩ = some (.int .i64 i7) := (blk_cell HHg9.out.box 7).trans rfl
  have fg9_0 := blk_frozen HHg9.out.box 0
  have fg9_1 := blk_frozen HHg9.out.box 1
  have fg9_2 := blk_frozen HHg9.out.box 2
  have fg9_3 := blk_frozen HHg9.out.box 3
  have fg9_4 := blk_frozen HHg9.out.box 4
  have fg9_5 := blk_frozen HHg9.out.box 5
  have fg9_6 := blk_frozen HHg9.out.box 6
  have fg9_7 := blk_frozen HHg9.out.box 7
  go_upto_region 17 with (go_at_call 49; refine (eqV k i0 i1 i2 i4 i5 i6 i7 s0 s1 s2 s4 s5 s6 s7 HHg9.out.row HHg3.out.row AE.out).mono ?_; rintro e w16 ⟨rfl, hb16⟩; have BG' := Aside0.mk (blk_below BG.out hb16); have HB' := Aside0.mk (below_step HB.out hb16); clear BG HB; have BG := Aside0.mk BG'.out; have HB := Aside0.mk HB'.out; clear BG' HB'; have HHg3' := Aside0.mk (HeldF.below HHg3.out hb16); clear HHg3; have HHg3 := Aside0.mk HHg3'.out; clear HHg3'; have HHg5' := Aside0.mk (HeldF.below HHg5.out hb16); clear HHg5; have HHg5 := Aside0.mk HHg5'.out; clear HHg5'; clear hb16)
  clear cg3_0 fg3_0 cg3_1 fg3_1 cg3_2 fg3_2 cg3_3 fg3_3 cg3_4 fg3_4 cg3_5 fg3_5 cg3_6 fg3_6 cg3_7 fg3_7
  clear cg9_0 fg9_0 cg9_1 fg9_1 cg9_2 fg9_2 cg9_3 fg9_3 cg9_4 fg9_4 cg9_5 fg9_5 cg9_6 fg9_6 cg9_7 fg9_7
  have cg5_0 : w16.cell? ⟨g5, 0, none⟩ = some (.int .i64 i0) := (blk_cell HHg5.out.box 0).trans rfl
  have cg5_1 : w16.cell? ⟨g5, 1, none⟩ = some (.int .i64 i1) := (blk_cell HHg5.out.box 1).trans rfl
  have cg5_2 : w16.cell? ⟨g5, 2, none⟩ = some (.int .i64 i2) := (blk_cell HHg5.out.box 2).trans rfl
  have cg5_3 : w16.cell? ⟨g5, 3, none⟩ = some (.slice AVg nVg kVg) := (blk_cell HHg5.out.box 3).trans rfl
  have cg5_4 : w16.cell? ⟨g5, 4, none⟩ = some (.int .i64 i4) := (blk_cell HHg5.out.box 4).trans rfl
  have cg5_5 : w16.cell? ⟨g5, 5, none⟩ = some (.int .i64 i5) := (blk_cell HHg5.out.box 5).trans rfl
  have cg5_6 : w16.cell? ⟨g5, 6, none⟩ = some (.bool i6) := (blk_cell HHg5.out.box 6).trans rfl
  have cg5_7 : w16.cell? ⟨g5, 7, none⟩ = some (.int .i64 i7) := (blk_cell HHg5.out.box 7).trans rfl
  have fg5_0 := blk_frozen HHg5.out.box 0
  have fg5_1 := blk_frozen HHg5.out.box 1
  have fg5_2 := blk_frozen HHg5.out.box 2
  have fg5_3 := blk_frozen HHg5.out.box 3
  have fg5_4 := blk_frozen HHg5.out.box 4
  have fg5_5 := blk_frozen HHg5.out.box 5
  have fg5_6 := blk_frozen HHg5.out.box 6
  have fg5_7 := blk_frozen HHg5.out.box 7
  go_wp2_with (go_at_call 56; refine (heldV k i0 i1 i2 i4 i5 i6 i7 1 HHg5.out.row AH.out).mono ?_; rintro e w17 ⟨rfl, hb17⟩)
  go_ret
  exact ⟨rfl, below_step HB.out hb17⟩

-- what is known of the values that come in
/-- THE ONE PURE STATEMENT of laws_FnExactNewFlash. -/
def laws_FnExactNewFlash.Pure : Prop := ∀ (a0_0 : Int) (a0_1 : Int) (a0_2 : Int), (Lit.int .i64 a0_0).wf = true → (Lit.int .i64 a0_1).wf = true → (Lit.int .i64 a0_2).wf = true → ∃ k, laws_FnExactNewFlash.f k a0_0 a0_1 a0_2 = some true

end Go.Proofs.Ytenmffpkdfbhbaa.QFnExactNewFlash
