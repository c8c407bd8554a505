-- Written by mp.py, a program of this session over the kit's print; the session answers for it, Lean checks it.
import Derived.Test.YtchpgjhbmeokaaaVQFnExactNewBadTablex0
import Derived.Test.YtchpgjhbmeokaaaVQFnExactNewBadTablex5
namespace Go.Proofs.Ytchpgjhbmeokaaa.QFnExactNewBadTable
open Go.RowKit Go.Proofs.Ytchpgjhbmeokaaa.Hand Go.Proofs.YtchpgjhbmeokaaaW.PrintWords Go.Proofs.YtchpgjhbmeokaaaW.PrintLast Go.Proofs.YtchpgjhbmeokaaaW.PrintMore
attribute [local go_sem] max2_int min2_int max_two min_two max_three min_three max_four min_four   -- for this text's walks alone
set_option linter.unusedVariables false
set_option linter.unusedSimpArgs false

/-! ### slices_Index_int64_int64: function 66 -/
def slices_Index_int64_int64.l0 : Nat → List Int → Int → Int → Int → Option (Int)
  | 0, _, _, _, _ => none
  | k + 1, x0, x1, x7, x8 => if x8 < x7 then (if 0 ≤ x8 then (if x8 < (x0.length : Int) then (if x1 = (rd x0 x8) then (some x8) else (slices_Index_int64_int64.l0 k x0 x1 x7 (wrap64 (x8 + 1)))) else (none)) else (none)) else (some (-1))
def slices_Index_int64_int64.f (k : Nat) (l0 : List Int) (a1 : Int) : Option (Int) := slices_Index_int64_int64.l0 k l0 a1 (l0.length : Int) 0
theorem slices_Index_int64_int64.mono_l : ∀ k, (∀ y0 y1 y2 y3, LeO (slices_Index_int64_int64.l0 k y0 y1 y2 y3) (slices_Index_int64_int64.l0 (k + 1) y0 y1 y2 y3))
  | 0 => fun _ _ _ _ r h => by simp [slices_Index_int64_int64.l0] at h
  | k + 1 => by
    have ih0 := slices_Index_int64_int64.mono_l k
    · intro y0 y1 y2 y3
      unfold slices_Index_int64_int64.l0
      repeat' first
      | (with_reducible exact ih0 _ _ _ _)
      | (with_reducible exact LeO.refl _)
      | (with_reducible exact LeO.none _)
      | (with_reducible refine LeO.ite ?_ ?_)
      | (with_reducible refine LeO.bind ?_ (fun _ => ?_))
      | exact ih0 _ _ _ _
      | exact LeO.none _
      | refine LeO.ite ?_ ?_
      | refine LeO.bind ?_ (fun _ => ?_)
theorem slices_Index_int64_int64.mono : ∀ a0 a1 k, LeO (slices_Index_int64_int64.f k a0 a1) (slices_Index_int64_int64.f (k + 1) a0 a1) := by
  intro a0 a1 k
  have ih0 := slices_Index_int64_int64.mono_l k
  unfold slices_Index_int64_int64.f
  repeat' first
      | (with_reducible exact ih0 _ _ _ _)
      | (with_reducible exact LeO.refl _)
      | (with_reducible exact LeO.none _)
      | (with_reducible refine LeO.ite ?_ ?_)
      | (with_reducible refine LeO.bind ?_ (fun _ => ?_))
      | exact ih0 _ _ _ _
      | exact LeO.none _
      | refine LeO.ite ?_ ?_
      | refine LeO.bind ?_ (fun _ => ?_)
set_option maxHeartbeats 8000000 in
set_option maxRecDepth 100000 in
theorem slices_Index_int64_int64.calls (k : Nat) (A0 : Option Addr) (c0 : Nat) (l0 : List Int) (a1 : Int) (r : Int) (w : World) (hr0 : Kd.C (Kd.int .i64) w A0 l0.length l0) (hc0 : l0.length ≤ c0) (h : slices_Index_int64_int64.f k l0 a1 = some r) :
    Calls Try.prog 66 #[.slice A0 l0.length c0, .int .i64 a1] w fun e w' => e = .returned (.int .i64 r) ∧ Drawn0 w w' := by
  have HR0 := Aside0.mk hr0
  have HC0 := Aside0.mk hc0
  clear hr0 hc0
  have H : (slices_Index_int64_int64.l0 k l0 a1 (l0.length : Int) 0) = some r := h
  clear h
  have H' := Aside0.mk H
  clear H
  go_enter Try.func66, Try.ntmps66
  go_wp2
  go_loopg [8] k (fun kq v8 w' => ∃ (x8_1 : Int), v8 = .int .i64 x8_1 ∧ Aside0 (slices_Index_int64_int64.l0 kq l0 a1 (l0.length : Int) x8_1 = some r) ∧ Aside0 (kq ≤ k) ∧ Drawn0 w w')
  case atStart => exact ⟨(0), (by first | rfl | (simp; done) | (simp [*]; done)), H', ⟨Nat.le_refl _⟩, by repeat (first | exact Drawn0.refl _ | apply Drawn0.step)⟩
  case round =>
    clear H'
    try clear p2
    obtain ⟨x8_1, rfl, HA, HK1, ⟨m1, rfl⟩⟩ := hrel
    cases gk with
    | zero => exact absurd HA.out (by simp [slices_Index_int64_int64.l0])
    | succ k1 =>
      have H := HA.out
      clear HA
      simp only [slices_Index_int64_int64.l0] at H
      by_cases c3 : x8_1 < (l0.length : Int)
      · rw [if_pos c3] at H
        have c3b0 : decide (x8_1 < (l0.length : Int)) = true := decide_eq_true c3
        clear c3
        by_cases c4 : 0 ≤ x8_1
        · rw [if_pos c4] at H
          have c4b0 : decide (0 ≤ x8_1) = true := decide_eq_true c4
          clear c4
          by_cases c5 : x8_1 < (l0.length : Int)
          · rw [if_pos c5] at H
            have c5b0 : decide (x8_1 < (l0.length : Int)) = true := decide_eq_true c5
            clear c5
            by_cases c6 : a1 = (rd l0 x8_1)
            · rw [if_pos c6] at H
              have c6b0 : (a1 == (rd l0 x8_1)) = true := beq_iff_eq.mpr c6
              have c6b1 : (a1 != (rd l0 x8_1)) = false := bne_eq_false_iff_eq.mpr c6
              clear c6
              obtain rfl := Option.some.inj H
              have p188 : 0 ≤ (x8_1 : Int) := of_decide_eq_true (by first | (with_reducible assumption) | assumption)
              have q188 : x8_1 < (l0.length : Int) := of_decide_eq_true (by first | (with_reducible assumption) | assumption)
              obtain ⟨ad188, e188, hx188_0⟩ := Kd.at_int HR0.out x8_1 p188 q188
              cases e188
              replace p188 := eq_true p188
              replace q188 := eq_true q188
              go_wp2
              go_ret
              exact ⟨by first | rfl | (simp; done) | (simp [*]; done), by repeat (first | exact Drawn0.refl _ | apply Drawn0.step)⟩
            · rw [if_neg c6] at H
              have c6b0 : (a1 == (rd l0 x8_1)) = false := beq_eq_false_iff_ne.mpr c6
              have c6b1 : (a1 != (rd l0 x8_1)) = true := bne_iff_ne.mpr c6
              have H' := Aside0.mk H
              clear H
              have p188 : 0 ≤ (x8_1 : Int) := of_decide_eq_true (by first | (with_reducible assumption) | assumption)
              have q188 : x8_1 < (l0.length : Int) := of_decide_eq_true (by first | (with_reducible assumption) | assumption)
              obtain ⟨ad188, e188, hx188_0⟩ := Kd.at_int HR0.out x8_1 p188 q188
              cases e188
              replace p188 := eq_true p188
              replace q188 := eq_true q188
              go_wp2
              go_roundg k1
              case measure => have := HK1.out; omega
              case rel => exact ⟨(wrap64 (x8_1 + 1)), (by first | rfl | (simp; done) | (simp [*]; done)), H', ⟨by have := HK1.out; omega⟩, by repeat (first | exact Drawn0.refl _ | apply Drawn0.step)⟩
          · rw [if_neg c5] at H
            exact absurd H (by simp)
        · rw [if_neg c4] at H
          exact absurd H (by simp)
      · rw [if_neg c3] at H
        have c3b0 : decide (x8_1 < (l0.length : Int)) = false := decide_eq_false c3
        clear c3
        obtain rfl := Option.some.inj H
        go_wp2
        go_ret
        exact ⟨by first | rfl | (simp; done) | (simp [*]; done), by repeat (first | exact Drawn0.refl _ | apply Drawn0.step)⟩

/-! ### slices_Contains_int64_int64: function 58 -/
def slices_Contains_int64_int64.f (k : Nat) (l0 : List Int) (a1 : Int) : Option (Bool) := (slices_Index_int64_int64.f k l0 a1).bind fun t189 => (some (decide (t189 ≥ 0)))
theorem slices_Contains_int64_int64.mono : ∀ a0 a1 k, LeO (slices_Contains_int64_int64.f k a0 a1) (slices_Contains_int64_int64.f (k + 1) a0 a1) := by
  intro a0 a1 k
  unfold slices_Contains_int64_int64.f
  repeat' first
      | (with_reducible exact slices_Index_int64_int64.mono _ _ _)
      | (with_reducible exact LeO.refl _)
      | (with_reducible exact LeO.none _)
      | (with_reducible refine LeO.ite ?_ ?_)
      | (with_reducible refine LeO.bind ?_ (fun _ => ?_))
      | exact slices_Index_int64_int64.mono _ _ _
      | exact LeO.none _
      | refine LeO.ite ?_ ?_
      | refine LeO.bind ?_ (fun _ => ?_)
set_option maxHeartbeats 8000000 in
set_option maxRecDepth 100000 in
theorem slices_Contains_int64_int64.calls (k : Nat) (A0 : Option Addr) (c0 : Nat) (l0 : List Int) (a1 : Int) (r : Bool) (w : World) (hr0 : Kd.C (Kd.int .i64) w A0 l0.length l0) (hc0 : l0.length ≤ c0) (h : slices_Contains_int64_int64.f k l0 a1 = some r) :
    Calls Try.prog 58 #[.slice A0 l0.length c0, .int .i64 a1] w fun e w' => e = .returned (.bool r) ∧ Drawn0 w w' := by
  have HR0 := Aside0.mk hr0
  have HC0 := Aside0.mk hc0
  clear hr0 hc0
  have H : ((slices_Index_int64_int64.f k l0 a1).bind fun t189 => (some (decide (t189 ≥ 0)))) = some r := h
  clear h
  replace H := Option.bind_eq_some_iff.mp H
  obtain ⟨t189, A30, H⟩ := H
  replace H : (some (decide (t189 ≥ 0))) = some r := H
  have A3 := Aside0.mk A30
  clear A30
  obtain rfl := Option.some.inj H
  go_enter Try.func58, Try.ntmps58
  go_wp2_with (first | ((with_reducible refine gate_callee (f := 66) rfl ?_); refine goesL_ (some 7) rfl rfl Try.func66 (by kernel_rfl) rfl #[.slice A0 l0.length c0, .int .i64 a1] rfl (by (try simp only [List.map_toArray, List.map_cons, List.map_nil]); first | done | rfl | (simp only [List.length_drop, List.length_take]; rfl)) ?_; (with_reducible refine (slices_Index_int64_int64.calls k _ _ l0 a1 t189 _ ?side1 ?side2 A3.out).mono ?_); (case side1 => repeat (first | exact HR0.out | (with_reducible refine Kd.C_alloc ?_ _) | (with_reducible refine Kd.C_drewN ?_ _) | (with_reducible refine Kd.C_drew ?_))); (case side2 => exact HC0.out); rintro e w' ⟨rfl, ⟨nd, rfl⟩⟩; refine ⟨_, rfl, ?_⟩))
  go_ret
  exact ⟨by first | rfl | (simp; done) | (simp [*]; done), by repeat (first | exact Drawn0.refl _ | apply Drawn0.step)⟩

/-! ### impl_BadTable_isBad: function 73 -/
def impl_BadTable_isBad.f (k : Nat) (a0_0 : Int) (a0_1 : Int) (a0_2 : Int) (a0_3 : Int) (l0_4 : List Int) (l0_5 : List Int) (a1 : Int) : Option (Bool) := (slices_Contains_int64_int64.f k l0_4 a1).bind fun t191 => (some t191)
theorem impl_BadTable_isBad.mono : ∀ a0 a1 a2 a3 a4 a5 a6 k, LeO (impl_BadTable_isBad.f k a0 a1 a2 a3 a4 a5 a6) (impl_BadTable_isBad.f (k + 1) a0 a1 a2 a3 a4 a5 a6) := by
  intro a0 a1 a2 a3 a4 a5 a6 k
  unfold impl_BadTable_isBad.f
  repeat' first
      | (with_reducible exact slices_Contains_int64_int64.mono _ _ _)
      | (with_reducible exact LeO.refl _)
      | (with_reducible exact LeO.none _)
      | (with_reducible refine LeO.ite ?_ ?_)
      | (with_reducible refine LeO.bind ?_ (fun _ => ?_))
      | exact slices_Contains_int64_int64.mono _ _ _
      | exact LeO.none _
      | refine LeO.ite ?_ ?_
      | refine LeO.bind ?_ (fun _ => ?_)
set_option maxHeartbeats 8000000 in
set_option maxRecDepth 100000 in
theorem impl_BadTable_isBad.calls (k : Nat) (a0_0 : Int) (a0_1 : Int) (a0_2 : Int) (a0_3 : Int) (A0_4 : Option Addr) (c0_4 : Nat) (l0_4 : List Int) (A0_5 : Option Addr) (c0_5 : Nat) (l0_5 : List Int) (a1 : Int) (r : Bool) (w : World) (hr0_4 : Kd.C (Kd.int .i64) w A0_4 l0_4.length l0_4) (hc0_4 : l0_4.length ≤ c0_4) (hr0_5 : Kd.C (Kd.int .i64) w A0_5 l0_5.length l0_5) (hc0_5 : l0_5.length ≤ c0_5) (h : impl_BadTable_isBad.f k a0_0 a0_1 a0_2 a0_3 l0_4 l0_5 a1 = some r) :
    Calls Try.prog 73 #[.agg #[.int .i64 a0_0, .int .i64 a0_1, .int .i64 a0_2, .int .i64 a0_3, .slice A0_4 l0_4.length c0_4, .slice A0_5 l0_5.length c0_5], .int .i64 a1] w fun e w' => e = .returned (.bool r) ∧ Below w.heap.size w w' := by
  have hu31 := Try.underlying31
  have HR0_4 := Aside0.mk hr0_4
  have HC0_4 := Aside0.mk hc0_4
  clear hr0_4 hc0_4
  have HR0_5 := Aside0.mk hr0_5
  have HC0_5 := Aside0.mk hc0_5
  clear hr0_5 hc0_5
  have HB := Aside0.mk (Below.refl w.heap.size w)
  have H : ((slices_Contains_int64_int64.f k l0_4 a1).bind fun t191 => (some t191)) = some r := h
  clear h
  replace H := Option.bind_eq_some_iff.mp H
  obtain ⟨t191, A30, H⟩ := H
  replace H : (some t191) = some r := H
  have A3 := Aside0.mk A30
  clear A30
  obtain rfl := Option.some.inj H
  go_enter Try.func73, Try.ntmps73
  go_wp2_with (first | ((with_reducible refine gate_dst (N := 2) rfl ?_); refine box_event ?hg (N := 2) ?hd (cs := #[.int .i64 a0_0, .int .i64 a0_1, .int .i64 a0_2, .int .i64 a0_3, .slice A0_4 l0_4.length c0_4, .slice A0_5 l0_5.length c0_5]) (t := 31) ?hr ?_; (case hd => rfl); (case hg => rfl); (case hr => first | (go_simp; done) | (go_simp; rfl)); intro gb190 hg w4 hbox hb; have n0_ := Aside0.mk (below_step (by repeat (first | (with_reducible first | exact HB.out | apply below_alloc | apply pw_below_drewN | apply below_drew1) | exact HB.out)) hb); have n1_ := Aside0.mk (hbox); have n2_ := Aside0.mk ((by rw [hg]; exact (below_size (by repeat (first | (with_reducible first | exact HB.out | apply below_alloc | apply pw_below_drewN | apply below_drew1) | exact HB.out))) : w.heap.size ≤ gb190)); have n3_ := Aside0.mk ((by rw [hg]; exact (below_size (by repeat (first | (with_reducible first | exact HB.out | apply below_alloc | apply pw_below_drewN | apply below_drew1) | exact HB.out))) : w.heap.size ≤ gb190)); clear HB; have HB := n0_; have BK190 := n1_; have GW190 := n2_; have GE190 := n3_; clear n0_ n1_ n2_ n3_; clear hb hbox hg; have hcz5_0 : w4.cell? ⟨gb190, 0, none⟩ = some (.int .i64 a0_0) := (blk_cell BK190.out 0).trans rfl; have hcz5_1 : w4.cell? ⟨gb190, 1, none⟩ = some (.int .i64 a0_1) := (blk_cell BK190.out 1).trans rfl; have hcz5_2 : w4.cell? ⟨gb190, 2, none⟩ = some (.int .i64 a0_2) := (blk_cell BK190.out 2).trans rfl; have hcz5_3 : w4.cell? ⟨gb190, 3, none⟩ = some (.int .i64 a0_3) := (blk_cell BK190.out 3).trans rfl; have hcz5_4 : w4.cell? ⟨gb190, 4, none⟩ = some (.slice A0_4 l0_4.length c0_4) := (blk_cell BK190.out 4).trans rfl; have hcz5_5 : w4.cell? ⟨gb190, 5, none⟩ = some (.slice A0_5 l0_5.length c0_5) := (blk_cell BK190.out 5).trans rfl; have hfz5_0 := blk_frozen BK190.out 0; have hfz5_1 := blk_frozen BK190.out 1; have hfz5_2 := blk_frozen BK190.out 2; have hfz5_3 := blk_frozen BK190.out 3; have hfz5_4 := blk_frozen BK190.out 4; have hfz5_5 := blk_frozen BK190.out 5) | ((with_reducible refine gate_callee (f := 58) rfl ?_); refine goesL_ (some 8) rfl rfl Try.func58 (by kernel_rfl) rfl #[.slice A0_4 l0_4.length c0_4, .int .i64 a1] rfl (by (try simp only [List.map_toArray, List.map_cons, List.map_nil]); first | done | rfl | (simp only [List.length_drop, List.length_take]; rfl)) ?_; (with_reducible refine (slices_Contains_int64_int64.calls k _ _ l0_4 a1 t191 _ ?side1 ?side2 A3.out).mono ?_); (case side1 => repeat (first | exact (Kd.C_below HR0_4.out HB.out) | (with_reducible refine Kd.C_alloc ?_ _) | (with_reducible refine Kd.C_drewN ?_ _) | (with_reducible refine Kd.C_drew ?_))); (case side2 => exact HC0_4.out); rintro e w' ⟨rfl, ⟨nd, rfl⟩⟩; refine ⟨_, rfl, ?_⟩))
  go_ret
  exact ⟨by first | rfl | (simp [errW_none, errW_some] <;> rfl) | (simp [*, errW_none, errW_some] <;> rfl), by repeat (first | (with_reducible first | exact HB.out | apply below_alloc | apply pw_below_drewN | apply below_drew1 | refine below_set ?_ GE190.out) | exact HB.out)⟩

-- NOT PRINTED: function 100 (impl_BadTable_available_1)

/-! ### impl_BadTable_available: function 68 (a text of the session's own) -/
theorem row_at {w : World} {g n : Nat} {e : TypeId} {cur : Array Value} {xs : List Int} (h : w.heap[g]? = some (.cells cur e (0, 0))) (ht : cur.toList.take n = xs.map (Value.int .i64)) (hn : xs.length = n) (j : Nat) (x : Int) (hx : xs[j]? = some x) : w.cell? ⟨g, j, none⟩ = some (.int .i64 x) := by
  obtain ⟨hj, rfl⟩ := List.getElem?_eq_some_iff.1 hx
  rw [cell_of_row w g j cur e (0, 0) h]
  have h1 : (cur.toList.take n)[j]? = (xs.map (Value.int .i64))[j]? := by rw [ht]
  rw [List.getElem?_take_of_lt (by omega)] at h1
  rw [← Array.getElem?_toList, h1]
  simp [hj]
/-- The row in the middle of DeleteFunc: j places are looked at, what is kept of them lies ahead. -/
structure DelInv (q : Int → Bool) (l : List Int) (i j : Nat) (xs : List Int) : Prop where
  len : xs.length = l.length
  ij : i < j
  jl : j ≤ l.length
  low : xs.take i = (l.take j).filter q
  high : xs.drop i = l.drop i
theorem DelInv.count {q : Int → Bool} {l : List Int} {i j : Nat} {xs : List Int} (h : DelInv q l i j xs) : ((l.take j).filter q).length = i := by
  rw [← h.low, List.length_take]
  have := h.len
  have := h.ij
  have := h.jl
  omega
theorem DelInv.at {q : Int → Bool} {l : List Int} {i j : Nat} {xs : List Int} (h : DelInv q l i j xs) (hj : j < l.length) : xs[j]? = some l[j] := by
  have h1 : (xs.drop i)[j - i]? = (l.drop i)[j - i]? := by rw [h.high]
  have := h.ij
  rw [List.getElem?_drop, List.getElem?_drop, show i + (j - i) = j by omega] at h1
  rw [h1, List.getElem?_eq_getElem hj]
theorem DelInv.start {q : Int → Bool} {l : List Int} {k : Nat} (hk : k < l.length) (ha : ∀ j, j < k → q (l.getD j 0) = true) (hd : q (l.getD k 0) = false) : DelInv q l k (k + 1) l where
  len := rfl
  ij := Nat.lt_succ_self _
  jl := hk
  low := by
    have e : (l.getD k 0) = l[k] := by simp [List.getD_eq_getElem?_getD, hk]
    rw [e] at hd
    rw [List.take_succ_eq_append_getElem hk, List.filter_append, List.filter_cons_of_neg (by simp [hd]), List.filter_nil, List.append_nil]
    symm
    apply List.filter_eq_self.2
    intro x hx
    obtain ⟨j, hj, rfl⟩ := List.mem_iff_getElem.1 hx
    have hj2 : j < k := by simp at hj; omega
    have := ha j hj2
    have hj3 : j < l.length := by omega
    simp [List.getD_eq_getElem?_getD, hj3] at this
    simpa using this
  high := rfl
theorem DelInv.skip {q : Int → Bool} {l : List Int} {i j : Nat} {xs : List Int} (h : DelInv q l i j xs) (hj : j < l.length) (hq : q l[j] = false) : DelInv q l i (j + 1) xs where
  len := h.len
  ij := by have := h.ij; omega
  jl := hj
  low := by rw [List.take_succ_eq_append_getElem hj, List.filter_append, List.filter_cons_of_neg (by simp [hq]), List.filter_nil, List.append_nil, h.low]
  high := h.high
theorem DelInv.keep {q : Int → Bool} {l : List Int} {i j : Nat} {xs : List Int} (h : DelInv q l i j xs) (hj : j < l.length) (hq : q l[j] = true) : DelInv q l (i + 1) (j + 1) (xs.set i l[j]) where
  len := by rw [List.length_set]; exact h.len
  ij := by have := h.ij; omega
  jl := hj
  low := by
    have h1 := h.len
    have h2 := h.ij
    have hi : i < xs.length := by omega
    rw [List.take_succ_eq_append_getElem hj, List.filter_append, List.filter_cons_of_pos hq, List.filter_nil, ← h.low, List.take_succ_eq_append_getElem (by rw [List.length_set]; exact hi), List.getElem_set_self, List.take_set_of_le (Nat.le_refl _)]
  high := by
    have h1 := h.high
    have h3 : (xs.drop i).drop 1 = (l.drop i).drop 1 := by rw [h1]
    rw [List.drop_drop, List.drop_drop] at h3
    rw [List.drop_set_of_lt (by omega)]
    exact h3
theorem DelInv.done {q : Int → Bool} {l : List Int} {i : Nat} {xs : List Int} (h : DelInv q l i l.length xs) : xs.take i = l.filter q := by
  rw [h.low, List.take_length]
theorem idxF_spec (p : Int → Bool) (l : List Int) : (idxF p l = -1 ∧ ∀ x ∈ l, p x = false) ∨ ∃ k : Nat, k < l.length ∧ idxF p l = (k : Int) ∧ p (l.getD k 0) = true ∧ ∀ j, j < k → p (l.getD j 0) = false := by
  induction l with
  | nil => exact .inl ⟨rfl, fun x hx => by simp at hx⟩
  | cons y ys ih =>
    cases hy : p y with
    | true =>
      refine .inr ⟨0, by simp, ?_, hy, fun j hj => absurd hj (Nat.not_lt_zero _)⟩
      simp [idxF, hy]
    | false =>
      rcases ih with ⟨e, ha⟩ | ⟨k, hk, e, ht, ha⟩
      · refine .inl ⟨by simp [idxF, hy, e], fun x hx => ?_⟩
        rcases List.mem_cons.1 hx with rfl | hx
        · exact hy
        · exact ha x hx
      · refine .inr ⟨k + 1, by simp; omega, ?_, ht, fun j hj => ?_⟩
        · simp [idxF, hy, e]
          omega
        · cases j with
          | zero => exact hy
          | succ j => exact ha j (by omega)
set_option maxHeartbeats 8000000 in
set_option maxRecDepth 100000 in
/-- slices.DeleteFunc over a row of the call's own, the predicate any function that turns nothing that lay there. -/
theorem delete_any (p : Int → Bool) (g : Nat) (lb : Array Value) (eg : ∀ args w, (callFunc g args).run Try.prog w = .ok (.enter g args) w) (v : Value) (l : List Int) (base : Nat) (w : World) (ho : Kd.R (Kd.int .i64) 2 w base (fun _ => True) v l) (hl : l.length ≤ 2000000) (hbw : base ≤ w.heap.size)
    (hp : ∀ (W : World) (x : Int), Below base w W → Calls Try.prog g (#[.int .i64 x] ++ lb) W fun e w' => e = .returned (.bool (p x)) ∧ Below W.heap.size W w') :
    Calls Try.prog 99 #[v, .func (.func g) #[] lb] w fun e w' => ∃ v0_ : Value, e = .returned v0_ ∧ Kd.R (Kd.int .i64) 2 w' base (fun _ => True) v0_ (l.filter fun x => !p x) ∧ Below base w w' := by
  have hu24 := Try.underlying24
  have hu2 := Try.underlying2
  obtain ⟨A0, c0, rfl⟩ := Kd.R_slice ho
  have hC := (Kd.R_reads' ho).2.2
  have HX := Aside0.mk (index_C2 p g lb eg A0 c0 l w hC (by omega) (fun W x hb => (hp W x (hb.mono hbw)).mono (fun e w' ⟨he, hb2⟩ => ⟨he, below_step hb hb2⟩)))
  have HO := Aside0.mk ho
  rcases idxF_spec p l with ⟨e1, ha⟩ | ⟨k, hk, e1, ht, ha⟩
  · have hf : (l.filter fun x => !p x) = l := List.filter_eq_self.2 (fun x hx => by rw [ha x hx]; rfl)
    rw [hf]
    rw [e1] at HX
    clear hC ho hp ha e1 hf hl
    have HBW := Aside0.mk hbw
    clear hbw
    go_enter Try.func99, Try.ntmps99
    go_wp2_with (go_at_call 119; refine HX.out.mono ?_; rintro e w' ⟨rfl, hb'⟩)
    go_ret
    exact ⟨_, rfl, Kd.R_mono (Kd.R_elder' HO.out (v := .slice none 0 0) (fun k hk => by simp [Value.ownBlock] at hk) hb') (fun _ _ => trivial), hb'.mono HBW.out⟩
  · rcases Own.R_open ho with ⟨e0, rfl⟩ | ⟨gb, cap, cur0, e0, hbase, _, hb0, h1, h2, h3, h4⟩
    · simp at hk
    · injection e0 with e2 _ e4
      subst e2 e4
      rw [e1] at HX
      have hgl : gb < w.heap.size := (Array.getElem?_eq_some_iff.1 hb0).1
      have hst := DelInv.start (q := fun x => !p x) hk (fun j hj => by show (!p _) = true; rw [ha j hj]; rfl) (by show (!p _) = false; rw [ht]; rfl)
      have hne1 : ((k : Int) == -1) = false := beq_eq_false_iff_ne.2 (by omega)
      have hw1 : wrap64 ((k : Int) + 1) = (k : Int) + 1 := by unfold wrap64; omega
      have HW1 := Aside0.mk hw1
      clear hw1
      have HL := Aside0.mk hl
      have HBW := Aside0.mk hbw
      have HP := Aside0.mk hp
      have HB0 := Aside0.mk hb0
      have HG := Aside0.mk hgl
      have HBASE := Aside0.mk hbase
      have H1 := Aside0.mk h1
      have H2 := Aside0.mk h2
      have H3 := Aside0.mk h3
      have H4 := Aside0.mk h4
      have HST := Aside0.mk hst
      have HK := Aside0.mk hk
      clear hC ho hp ha ht e1 hl hbw hb0 hgl hbase h1 h2 h3 h4 hst hk
      go_enter Try.func99, Try.ntmps99
      go_wp2_with (go_at_call 119; refine HX.out.mono ?_; rintro e w' ⟨rfl, hb'⟩)
      rw [HW1.out]
      go_loopg [5, 6, 7] l.length (fun gg v5 v6 _ w' => ∃ (i j : Nat) (cur : Array Value) (xs : List Int), v5 = .int .i64 (i : Int) ∧ v6 = .int .i64 (j : Int) ∧ Aside0 (l.length - j ≤ gg) ∧ Aside0 (DelInv (fun x => !p x) l i j xs) ∧ Aside0 (w'.heap[gb]? = some (.cells cur 2 (0, 0))) ∧ Aside0 (cur.size = c0 * 1 ∧ cur.toList.take l.length = xs.map (Value.int .i64)) ∧ Aside0 (Below base w w') ∧ Aside0 (gb < w'.heap.size))
      case atStart => exact ⟨k, k + 1, cur0, l, rfl, by first | rfl | (congr 1; omega), ⟨by omega⟩, ⟨HST.out⟩, ⟨(hb'.block gb HG.out).trans HB0.out⟩, ⟨H3.out, H4.out⟩, ⟨hb'.mono HBW.out⟩, ⟨Nat.lt_of_lt_of_le HG.out hb'.size⟩⟩
      case round =>
        obtain ⟨i, j, cur, xs, rfl, rfl, HGG, HI, HH, HCU, HB, HLT⟩ := hrel
        by_cases c : j < l.length
        · have c1 : decide ((j : Int) < (l.length : Int)) = true := decide_eq_true (by omega)
          have c2 : decide (j < l.length) = true := decide_eq_true c
          have c3 : (j < l.length) = True := eq_true c
          have c4 : (i < l.length) = True := eq_true (by have := HI.out.ij; omega)
          have cj := row_at HH.out HCU.out.2 HI.out.len j l[j] (HI.out.at c)
          have hcall := HP.out wr l[j] HB.out
          have hij := HI.out.ij
          obtain ⟨old, hold⟩ : ∃ old, xs[i]? = some old := ⟨xs[i]'(by have := HI.out.len; omega), List.getElem?_eq_getElem _⟩
          have HOLD := Aside0.mk hold
          have hw5 : wrap64 ((i : Int) + 1) = ((i + 1 : Nat) : Int) := by have := HL.out; unfold wrap64; omega
          have hw6 : wrap64 ((j : Int) + 1) = ((j + 1 : Nat) : Int) := by have := HL.out; unfold wrap64; omega
          have HKEEP : Aside0 ((!p l[j]) = true → DelInv (fun x => !p x) l (i + 1) (j + 1) (xs.set i l[j])) := ⟨fun h => HI.out.keep c h⟩
          have HSKIP : Aside0 ((!p l[j]) = false → DelInv (fun x => !p x) l i (j + 1) xs) := ⟨fun h => HI.out.skip c h⟩
          have HCC := Aside0.mk c
          generalize l[j] = u at cj hcall HKEEP HSKIP
          clear c hij hold
          cases hq : p u with
          | false =>
            rw [hq] at hcall HKEEP
            clear hq
            go_wp2_with (go_at_fn g; refine hcall.mono ?_; rintro e w3 ⟨rfl, hb3⟩; have hh3 := (hb3.block gb HLT.out).trans HH.out; have ci := row_at hh3 HCU.out.2 HI.out.len i old HOLD.out; have fi := frozen_of_row _ gb i _ _ hh3; have HH3 := Aside0.mk hh3; clear hh3)
            go_roundg (l.length - (j + 1))
            case measure => have := HCC.out; have := HGG.out; omega
            case rel =>
              refine ⟨i + 1, j + 1, cur.setIfInBounds i (.int .i64 u), xs.set i u, by rw [hw5], by rw [hw6], ⟨Nat.le_refl _⟩, ⟨HKEEP.out rfl⟩, ⟨heap_setCell_same _ gb i cur 2 _ HH3.out⟩, ⟨by simpa using HCU.out.1, ?_⟩, ⟨(HB.out.trans (hb3.mono (Nat.le_trans HBW.out HB.out.size))).setCell HBASE.out _⟩, ⟨?_⟩⟩
              · rw [Array.toList_setIfInBounds, List.take_set, HCU.out.2, List.map_set]
              · have := HLT.out
                have := hb3.size
                simp [World.setCell]
                omega
          | true =>
            rw [hq] at hcall HSKIP
            clear hq
            go_wp2_with (go_at_fn g; refine hcall.mono ?_; rintro e w3 ⟨rfl, hb3⟩)
            go_roundg (l.length - (j + 1))
            case measure => have := HCC.out; have := HGG.out; omega
            case rel =>
              exact ⟨i, j + 1, cur, xs, rfl, by rw [hw6], ⟨Nat.le_refl _⟩, ⟨HSKIP.out rfl⟩, ⟨(hb3.block gb HLT.out).trans HH.out⟩, HCU, ⟨HB.out.trans (hb3.mono (Nat.le_trans HBW.out HB.out.size))⟩, ⟨Nat.lt_of_lt_of_le HLT.out hb3.size⟩⟩
        · obtain rfl : j = l.length := by have := HI.out.jl; omega
          have c1 : decide ((l.length : Int) < (l.length : Int)) = false := decide_eq_false (by omega)
          have c2 : decide (l.length < l.length) = false := decide_eq_false c
          have hij := HI.out.ij
          have hlen := HI.out.len
          have hcl : ∀ ty, (Builtin.clear_ #[24] ty #[.slice (some ⟨gb, i, none⟩) (l.length - i) (c0 - i)]).run Try.prog wr = .ok (.tuple #[]) (wr.setCells gb i (List.replicate (l.length - i) (.int .i64 0))) :=
            fun ty => Lib.run_clear_slice wr 24 2 ty (.int .i64 0) Try.underlying24 Try.zeroValue2 rfl rfl gb i _ _ (by omega) (fun t ht => by rw [row_at HH.out HCU.out.2 hlen (i + t) _ (List.getElem?_eq_getElem (by omega))]; rfl) (fun t ht => frozen_of_row _ gb (i + t) _ _ HH.out)
          have c3 : (i ≤ l.length) = True := eq_true (by omega)
          have c4 : (i = l.length) = False := eq_false (by omega)
          have c5 : (i = c0) = False := eq_false (by have := H1.out; omega)
          have c6 : (c0 = i) = False := eq_false (by have := H1.out; omega)
          have c7 : (l.length ≤ c0) = True := eq_true H1.out
          have c8 : (i ≤ c0) = True := eq_true (by have := H1.out; omega)
          clear c
          have HIJ := Aside0.mk hij
          have HLEN := Aside0.mk hlen
          clear hij hlen
          go_wp2
          go_ret
          obtain ⟨cur', g1, g2, g3⟩ := setCells_row (List.replicate (l.length - i) (Value.int .i64 0)) i wr cur HH.out (by rw [List.length_replicate]; have := HCU.out.1; have := H1.out; have := HIJ.out; omega)
          have hd := HI.out.done
          have hln : (l.filter fun x => !p x).length = i := by
            rw [← hd, List.length_take]
            have := HIJ.out
            have := HLEN.out
            omega
          refine ⟨_, rfl, ?_, ?_⟩
          · show (Kd.int .i64).R 2 _ _ _ (.slice (some ⟨gb, 0, none⟩) i c0) _
            refine Kd.R_of_own ?_ (fun _ _ => trivial)
            rw [hln]
            refine ⟨by simp [encs, hln], .inr ⟨gb, c0, cur', rfl, HBASE.out, g1, by have := HIJ.out; have := H1.out; omega, H2.out, by rw [g2]; exact HCU.out.1, ?_⟩⟩
            rw [Nat.mul_one, g3, List.append_assoc, List.take_append_of_le_length (by rw [List.length_take, Array.length_toList]; have := HCU.out.1; have := H1.out; have := HIJ.out; omega), List.take_take, Nat.min_self, ← hd]
            have ht := congrArg (List.take i) HCU.out.2
            rw [List.take_take, Nat.min_eq_left (by have := HIJ.out; omega), ← List.map_take] at ht
            exact ht
          · obtain ⟨s1, s2, s3, s4⟩ := setCells_same gb (List.replicate (l.length - i) (Value.int .i64 0)) i wr
            exact HB.out.trans ⟨s1, s2, s3, by omega, fun k hk => setCells_far _ _ k (by have := HBASE.out; omega)⟩
theorem idx_has (l : List Int) (x : Int) (hl : l.length ≤ 9223372036854775807) (d : Nat) : ∀ (k i : Nat), i + d = l.length → d < k → ∃ r, slices_Index_int64_int64.l0 k l x (l.length : Int) (i : Int) = some r ∧ decide (r ≥ 0) = (l.drop i).any (fun y => y == x) := by
  induction d with
  | zero =>
    intro k i hi hk
    obtain ⟨k, rfl⟩ : ∃ n, k = n + 1 := ⟨k - 1, by omega⟩
    rw [slices_Index_int64_int64.l0, if_neg (by omega), List.drop_eq_nil_of_le (by omega)]
    exact ⟨-1, rfl, rfl⟩
  | succ d ih =>
    intro k i hi hk
    obtain ⟨k, rfl⟩ : ∃ n, k = n + 1 := ⟨k - 1, by omega⟩
    have hlt : i < l.length := by omega
    have er : rd l (i : Int) = l[i] := by simp [rd, List.getD_eq_getElem?_getD, hlt]
    have hw : wrap64 ((i : Int) + 1) = ((i + 1 : Nat) : Int) := by unfold wrap64; omega
    rw [slices_Index_int64_int64.l0, if_pos (by omega), if_pos (by omega), if_pos (by omega), er, List.drop_eq_getElem_cons hlt, List.any_cons]
    by_cases c : x = l[i]
    · rw [if_pos c]
      refine ⟨(i : Int), rfl, ?_⟩
      rw [decide_eq_true (by omega), beq_iff_eq.2 c.symm]
      rfl
    · rw [if_neg c, hw]
      obtain ⟨r, e, h⟩ := ih k (i + 1) (by omega) (by omega)
      refine ⟨r, e, ?_⟩
      rw [h, beq_eq_false_iff_ne.2 (fun e => c e.symm), Bool.false_or]
theorem has_any (l : List Int) (x : Int) (hl : l.length ≤ 9223372036854775807) (k : Nat) (hk : l.length < k) : slices_Contains_int64_int64.f k l x = some (l.any (fun y => y == x)) := by
  unfold slices_Contains_int64_int64.f slices_Index_int64_int64.f
  obtain ⟨r, e, h⟩ := idx_has l x hl l.length k 0 (by omega) hk
  have e0 : ((0 : Nat) : Int) = 0 := rfl
  rw [e0] at e
  rw [e]
  simp only [Option.bind_some]
  rw [h, List.drop_zero]
set_option maxHeartbeats 8000000 in
set_option maxRecDepth 100000 in
theorem lit_100 (a0_0 a0_1 a0_2 a0_3 : Int) (A0_4 : Option Addr) (c0_4 : Nat) (l0_4 : List Int) (A0_5 : Option Addr) (c0_5 : Nat) (l0_5 : List Int) (b : Int) (B : Nat) (W : World) (hbox : W.heap[B]? = some (.cells #[.int .i64 a0_0, .int .i64 a0_1, .int .i64 a0_2, .int .i64 a0_3, .slice A0_4 l0_4.length c0_4, .slice A0_5 l0_5.length c0_5] 31 (0, 0))) (hr0_4 : Kd.C (Kd.int .i64) W A0_4 l0_4.length l0_4) (hc0_4 : l0_4.length ≤ c0_4) (hr0_5 : Kd.C (Kd.int .i64) W A0_5 l0_5.length l0_5) (hc0_5 : l0_5.length ≤ c0_5) :
    Calls Try.prog 100 (#[.int .i64 b] ++ #[.pointer (some ⟨B, 0, none⟩)]) W fun e w' => e = .returned (.bool (l0_4.any (fun y => y == b) || l0_5.any (fun y => y == b))) ∧ Below W.heap.size W w' := by
  have hu31 := Try.underlying31
  have hl4 : l0_4.length ≤ 9223372036854775807 := hr0_4.2.1
  have hl5 : l0_5.length ≤ 9223372036854775807 := hr0_5.2.1
  have A4 := Aside0.mk (has_any l0_4 b hl4 (l0_4.length + 1) (by omega))
  have A5 := Aside0.mk (has_any l0_5 b hl5 (l0_5.length + 1) (by omega))
  have A6 : Aside0 (impl_BadTable_isBad.f (l0_4.length + 1) a0_0 a0_1 a0_2 a0_3 l0_4 l0_5 b = some (l0_4.any (fun y => y == b))) := ⟨by unfold impl_BadTable_isBad.f; rw [A4.out]; rfl⟩
  have hz0 : W.cell? ⟨B, 0, none⟩ = some (.int .i64 a0_0) := (blk_cell hbox 0).trans rfl
  have hz1 : W.cell? ⟨B, 1, none⟩ = some (.int .i64 a0_1) := (blk_cell hbox 1).trans rfl
  have hz2 : W.cell? ⟨B, 2, none⟩ = some (.int .i64 a0_2) := (blk_cell hbox 2).trans rfl
  have hz3 : W.cell? ⟨B, 3, none⟩ = some (.int .i64 a0_3) := (blk_cell hbox 3).trans rfl
  have hz4 : W.cell? ⟨B, 4, none⟩ = some ((.slice A0_4 l0_4.length c0_4)) := (blk_cell hbox 4).trans rfl
  have hz5 : W.cell? ⟨B, 5, none⟩ = some ((.slice A0_5 l0_5.length c0_5)) := (blk_cell hbox 5).trans rfl
  have HR4 := Aside0.mk hr0_4
  have HC4 := Aside0.mk hc0_4
  have HR5 := Aside0.mk hr0_5
  have HC5 := Aside0.mk hc0_5
  have HX := Aside0.mk hbox
  clear hr0_4 hc0_4 hr0_5 hc0_5 hbox hl4 hl5
  generalize l0_4.any (fun y => y == b) = q4 at A4 A6 ⊢
  generalize l0_5.any (fun y => y == b) = q5 at A5 ⊢
  cases q4
  all_goals
    go_enter Try.func100, Try.ntmps100
    go_wp2_with (first | (go_at_call 73; refine (impl_BadTable_isBad.calls _ a0_0 a0_1 a0_2 a0_3 A0_4 c0_4 l0_4 A0_5 c0_5 l0_5 b _ _ HR4.out HC4.out HR5.out HC5.out A6.out).mono ?_; rintro e w4 ⟨rfl, hb4⟩; have hz9 : w4.cell? ⟨B, 5, none⟩ = some (.slice A0_5 l0_5.length c0_5) := (blk_cell (blk_below HX.out hb4) 5).trans rfl) | (go_at_call 58; refine (slices_Contains_int64_int64.calls _ A0_5 c0_5 l0_5 b _ _ (Kd.C_below HR5.out hb4) HC5.out A5.out).mono ?_; rintro e w5 ⟨rfl, ⟨m5, rfl⟩⟩))
    go_ret
    first
    | exact ⟨rfl, hb4⟩
    | exact ⟨rfl, pw_below_drewN hb4 _⟩
def impl_BadTable_available.f (k : Nat) (a0_0 a0_1 a0_2 a0_3 : Int) (l0_4 l0_5 : List Int) (a1 : Int) : Option (List Int) := (impl_BadTable_spares.f k a0_0 a0_1 a0_2 a0_3 l0_4 l0_5 a1).bind fun l => if l.length ≤ 2000000 then some (l.filter fun b => !(l0_4.any (fun y => y == b) || l0_5.any (fun y => y == b))) else none
theorem impl_BadTable_available.mono : ∀ a0 a1 a2 a3 a4 a5 a6 k, LeO (impl_BadTable_available.f k a0 a1 a2 a3 a4 a5 a6) (impl_BadTable_available.f (k + 1) a0 a1 a2 a3 a4 a5 a6) := by
  intro a0 a1 a2 a3 a4 a5 a6 k
  unfold impl_BadTable_available.f
  exact LeO.bind (impl_BadTable_spares.mono a0 a1 a2 a3 a4 a5 a6 k) (fun _ => LeO.refl _)
set_option maxHeartbeats 8000000 in
set_option maxRecDepth 100000 in
theorem impl_BadTable_available.calls (k : Nat) (a0_0 : Int) (a0_1 : Int) (a0_2 : Int) (a0_3 : Int) (A0_4 : Option Addr) (c0_4 : Nat) (l0_4 : List Int) (A0_5 : Option Addr) (c0_5 : Nat) (l0_5 : List Int) (a1 : Int) (r : List Int) (w : World) (hr0_4 : Kd.C (Kd.int .i64) w A0_4 l0_4.length l0_4) (hc0_4 : l0_4.length ≤ c0_4) (hr0_5 : Kd.C (Kd.int .i64) w A0_5 l0_5.length l0_5) (hc0_5 : l0_5.length ≤ c0_5) (h : impl_BadTable_available.f k a0_0 a0_1 a0_2 a0_3 l0_4 l0_5 a1 = some r) :
    Calls Try.prog 68 #[.agg #[.int .i64 a0_0, .int .i64 a0_1, .int .i64 a0_2, .int .i64 a0_3, .slice A0_4 l0_4.length c0_4, .slice A0_5 l0_5.length c0_5], .int .i64 a1] w fun e w' => ∃ v0_ : Value, e = .returned (v0_) ∧ Kd.R (Kd.int .i64) 2 w' w.heap.size (fun _ => True) v0_ r ∧ Below w.heap.size w w' := by
  have hu31 := Try.underlying31
  unfold impl_BadTable_available.f at h
  obtain ⟨l, A1, h⟩ := Option.bind_eq_some_iff.mp h
  have hl : l.length ≤ 2000000 := by
    by_cases c : l.length ≤ 2000000
    · exact c
    · rw [if_neg c] at h
      exact absurd h (by simp)
  rw [if_pos hl] at h
  obtain rfl := Option.some.inj h
  have HL := Aside0.mk hl
  have A2 := Aside0.mk A1
  have HR4 := Aside0.mk hr0_4
  have HC4 := Aside0.mk hc0_4
  have HR5 := Aside0.mk hr0_5
  have HC5 := Aside0.mk hc0_5
  clear hr0_4 hc0_4 hr0_5 hc0_5 h A1 hl
  have HB := Aside0.mk (Below.refl w.heap.size w)
  go_enter Try.func68, Try.ntmps68
  go_wp2_with (first | ((with_reducible refine gate_dst (N := 2) rfl ?_); refine box_event ?hg (N := 2) ?hd (cs := #[.int .i64 a0_0, .int .i64 a0_1, .int .i64 a0_2, .int .i64 a0_3, .slice A0_4 l0_4.length c0_4, .slice A0_5 l0_5.length c0_5]) (t := 31) ?hr ?_; (case hd => rfl); (case hg => rfl); (case hr => first | (go_simp; done) | (go_simp; rfl)); intro gb hg w4 hbox hb; have hz0 : w4.cell? ⟨gb, 0, none⟩ = some (.int .i64 a0_0) := (blk_cell hbox 0).trans rfl; have hz1 : w4.cell? ⟨gb, 1, none⟩ = some (.int .i64 a0_1) := (blk_cell hbox 1).trans rfl; have hz2 : w4.cell? ⟨gb, 2, none⟩ = some (.int .i64 a0_2) := (blk_cell hbox 2).trans rfl; have hz3 : w4.cell? ⟨gb, 3, none⟩ = some (.int .i64 a0_3) := (blk_cell hbox 3).trans rfl; have hz4 : w4.cell? ⟨gb, 4, none⟩ = some ((.slice A0_4 l0_4.length c0_4)) := (blk_cell hbox 4).trans rfl; have hz5 : w4.cell? ⟨gb, 5, none⟩ = some ((.slice A0_5 l0_5.length c0_5)) := (blk_cell hbox 5).trans rfl; have HX := Aside0.mk hbox; clear hbox hg) | (go_at_call 98; refine (impl_BadTable_spares.calls k a0_0 a0_1 a0_2 a0_3 A0_4 c0_4 l0_4 A0_5 c0_5 l0_5 a1 l w4 (Kd.C_below HR4.out hb) HC4.out (Kd.C_below HR5.out hb) HC5.out A2.out).mono ?_; rintro e w5 ⟨v5, rfl, ho5, hb5⟩) | (go_at_call 99; refine (delete_any (fun b => l0_4.any (fun y => y == b) || l0_5.any (fun y => y == b)) 100 #[.pointer (some ⟨gb, 0, none⟩)] (enters_of Try.func100 (by kernel_rfl) rfl) v5 l w4.heap.size w5 ho5 HL.out hb5.size (fun W x hbW => lit_100 a0_0 a0_1 a0_2 a0_3 A0_4 c0_4 l0_4 A0_5 c0_5 l0_5 x gb W (((hb5.trans hbW).block gb (blk_lt HX.out)).trans HX.out) (Kd.C_below HR4.out (hb.trans ((hb5.trans hbW).mono hb.size))) HC4.out (Kd.C_below HR5.out (hb.trans ((hb5.trans hbW).mono hb.size))) HC5.out)).mono ?_; rintro e w6 ⟨v6, rfl, ho6, hb6⟩))
  go_ret
  exact ⟨_, rfl, Kd.R_lower ho6 hb.size, hb.trans ((hb5.trans hb6).mono hb.size)⟩

/-! ### slices_Clone_int64_int64: function 71 (a text of the session's own) -/
def slices_Clone_int64_int64.f (l0 : List Int) : Option (List Int) := if l0.length ≤ 2000000 then some l0 else none
set_option maxHeartbeats 8000000 in
set_option maxRecDepth 100000 in
theorem slices_Clone_int64_int64.calls (A0 : Option Addr) (c0 : Nat) (l0 : List Int) (r : List Int) (w : World) (hr0 : Kd.C (Kd.int .i64) w A0 l0.length l0) (hc0 : l0.length ≤ c0) (h : slices_Clone_int64_int64.f l0 = some r) :
    Calls Try.prog 71 #[.slice A0 l0.length c0] w fun e w' => ∃ v0_ : Value, e = .returned v0_ ∧ Kd.R (Kd.int .i64) 2 w' w.heap.size (fun _ => True) v0_ r ∧ Below w.heap.size w w' := by
  unfold slices_Clone_int64_int64.f at h
  have hl : l0.length ≤ 2000000 := by
    by_cases c : l0.length ≤ 2000000
    · exact c
    · rw [if_neg c] at h
      exact absurd h (by simp)
  rw [if_pos hl] at h
  obtain rfl := Option.some.inj h
  by_cases hn : 0 < l0.length
  · obtain ⟨ad, rfl, h0⟩ := Kd.at_int hr0 0 (by omega) (by omega)
    obtain ⟨b, off, sp⟩ := ad
    have hs : sp = none := by
      cases sp with
      | none => rfl
      | some x => exact absurd h0 (by simp [World.cell?, Go.Addr.add]; split <;> simp)
    subst hs
    have hc : ∀ j u, (l0.map (Value.int .i64))[j]? = some u → w.cell? ⟨b, off + j, none⟩ = some u := fun j u hu => by
      rw [List.getElem?_map] at hu
      obtain ⟨x, hx, rfl⟩ := Option.map_eq_some_iff.1 hu
      obtain ⟨hj, rfl⟩ := List.getElem?_eq_some_iff.1 hx
      obtain ⟨ad, e, h1⟩ := Kd.at_int hr0 (j : Int) (by omega) (by omega)
      cases e
      have e2 : (⟨b, off, none⟩ : Addr).add ((j : Int)).toNat = ⟨b, off + j, none⟩ := by
        unfold Go.Addr.add
        split
        · rename_i hz
          have hz2 : ((j : Int)).toNat = 0 := by simpa using hz
          have : j = 0 := by omega
          subst this
          rfl
        · simp
      rw [e2] at h1
      rw [h1]
      simp [rd, List.getD_eq_getElem?_getD, hj]
    obtain ⟨i0, hi, hz0, hz1, hz2⟩ := info_parts info2
    refine (Try.slices_Clone i0 (.int .i64 0) 1 8 hi hz0 hz1 hz2 rfl (by omega) Try.sizeOf2 b off l0.length c0 (l0.map (Value.int .i64)) w (by simp) (by simp only [maxLen]; omega) (by omega) hc (by intro u hu; obtain ⟨x, _, rfl⟩ := List.mem_map.1 hu; rfl)).mono ?_
    rintro e w' ⟨v, rfl, ho, _, hb⟩
    exact ⟨v, rfl, Kd.R_of_own ho (fun _ _ => trivial), hb⟩
  · obtain rfl : l0 = [] := List.eq_nil_of_length_eq_zero (by omega)
    cases A0 with
    | none =>
      refine (Try.slices_Clone_nil 0 c0 w).mono ?_
      rintro e w' ⟨rfl, rfl⟩
      exact ⟨_, rfl, Kd.R_nil _ _ _ _ _, Below.refl _ _⟩
    | some ad =>
      have q22 : ∀ (w : World) (a : Option Addr) (n c n' c' : Nat), (binOp .eql 24 (.slice a n c) (.slice none n' c')).run Try.prog w = .ok (.bool a.isNone) w := fun w a n c n' c' => Lib.run_eql_slice_nil w _ _ a n c n' c' Try.underlying24
      have hu := Try.underlying24
      clear hr0 h hl hn hc0
      go_enter Try.func71, Try.ntmps71
      go_wp2
      go_ret
      refine ⟨_, rfl, ?_, below_alloc (Below.refl _ _) _⟩
      show (Kd.int .i64).R 2 _ _ _ (.slice (some ⟨w.heap.size, 0, none⟩) 0 0) _
      exact Kd.R_of_own ⟨rfl, .inr ⟨w.heap.size, 0, #[], rfl, Nat.le_refl _, heap_alloc_new w _, Nat.le_refl _, by simp [maxLen], rfl, rfl⟩⟩ (fun _ _ => trivial)

/-! ### impl_BadTable_home: function 72 -/
def impl_BadTable_home.f (a0_0 : Int) (a0_1 : Int) (a0_2 : Int) (a0_3 : Int) (l0_4 : List Int) (l0_5 : List Int) (a1 : Int) : Option (Int) := (impl_BadTable_primary.f a0_0 a0_1 a0_2 a0_3 l0_4 l0_5).bind fun t193 => (if t193 = 0 then (none) else ((impl_BadTable_primary.f a0_0 a0_1 a0_2 a0_3 l0_4 l0_5).bind fun t194 => (if t194 = 0 then (none) else (some (wrap64 ((wrap64 ((wrap64 (Int.tdiv a1 t193)) * a0_1)) + (Int.tmod a1 t194)))))))
def impl_BadTable_home.T1 : Bool × List (List Nat × List Nat) := (true, [([], []), ([], []), ([1], [1]), ([0, 2], [0, 2]), ([], []), ([4], [4]), ([5], [5]), ([3, 6], [3, 6]), ([], []), ([], []), ([9, 2], [9]), ([8, 10], [8, 10]), ([7, 11], [7, 11]), ([12, 10, 0, 1, 2, 3, 4, 5, 6, 7, 8, 9, 10, 11, 12], [12])])
def impl_BadTable_home.B1 : List Nat := [0, 0, 2, 7, 0, 16, 48, 127, 0, 0, 518, 1798, 4095, 8191]
theorem impl_BadTable_home.tab1 : rtab .any (opsOf Try.f72 1) = impl_BadTable_home.T1 := by kernel_rfl
theorem impl_BadTable_home.bits1 : waitsOk impl_BadTable_home.T1.2 impl_BadTable_home.B1 = true := by kernel_rfl
set_option maxHeartbeats 8000000 in
set_option maxRecDepth 100000 in
theorem impl_BadTable_home.calls (a0_0 : Int) (a0_1 : Int) (a0_2 : Int) (a0_3 : Int) (A0_4 : Option Addr) (c0_4 : Nat) (l0_4 : List Int) (A0_5 : Option Addr) (c0_5 : Nat) (l0_5 : List Int) (a1 : Int) (r : Int) (w : World) (hr0_4 : Kd.C (Kd.int .i64) w A0_4 l0_4.length l0_4) (hc0_4 : l0_4.length ≤ c0_4) (hr0_5 : Kd.C (Kd.int .i64) w A0_5 l0_5.length l0_5) (hc0_5 : l0_5.length ≤ c0_5) (h : impl_BadTable_home.f a0_0 a0_1 a0_2 a0_3 l0_4 l0_5 a1 = some r) :
    Calls Try.prog 72 #[.agg #[.int .i64 a0_0, .int .i64 a0_1, .int .i64 a0_2, .int .i64 a0_3, .slice A0_4 l0_4.length c0_4, .slice A0_5 l0_5.length c0_5], .int .i64 a1] w fun e w' => e = .returned (.int .i64 r) ∧ Below w.heap.size w w' := by
  have hu31 := Try.underlying31
  have HR0_4 := Aside0.mk hr0_4
  have HC0_4 := Aside0.mk hc0_4
  clear hr0_4 hc0_4
  have HR0_5 := Aside0.mk hr0_5
  have HC0_5 := Aside0.mk hc0_5
  clear hr0_5 hc0_5
  have HB := Aside0.mk (Below.refl w.heap.size w)
  have H : ((impl_BadTable_primary.f a0_0 a0_1 a0_2 a0_3 l0_4 l0_5).bind fun t193 => (if t193 = 0 then (none) else ((impl_BadTable_primary.f a0_0 a0_1 a0_2 a0_3 l0_4 l0_5).bind fun t194 => (if t194 = 0 then (none) else (some (wrap64 ((wrap64 ((wrap64 (Int.tdiv a1 t193)) * a0_1)) + (Int.tmod a1 t194)))))))) = some r := h
  clear h
  replace H := Option.bind_eq_some_iff.mp H
  obtain ⟨t193, A30, H⟩ := H
  replace H : (if t193 = 0 then (none) else ((impl_BadTable_primary.f a0_0 a0_1 a0_2 a0_3 l0_4 l0_5).bind fun t194 => (if t194 = 0 then (none) else (some (wrap64 ((wrap64 ((wrap64 (Int.tdiv a1 t193)) * a0_1)) + (Int.tmod a1 t194))))))) = some r := H
  have A3 := Aside0.mk A30
  clear A30
  by_cases c4 : t193 = 0
  · rw [if_pos c4] at H
    exact absurd H (by simp)
  · rw [if_neg c4] at H
    have c4b0 : (t193 == 0) = false := beq_eq_false_iff_ne.mpr c4
    have c4b1 : (t193 != 0) = true := bne_iff_ne.mpr c4
    replace H := Option.bind_eq_some_iff.mp H
    obtain ⟨t194, A50, H⟩ := H
    replace H : (if t194 = 0 then (none) else (some (wrap64 ((wrap64 ((wrap64 (Int.tdiv a1 t193)) * a0_1)) + (Int.tmod a1 t194))))) = some r := H
    have A5 := Aside0.mk A50
    clear A50
    by_cases c6 : t194 = 0
    · rw [if_pos c6] at H
      exact absurd H (by simp)
    · rw [if_neg c6] at H
      have c6b0 : (t194 == 0) = false := beq_eq_false_iff_ne.mpr c6
      have c6b1 : (t194 != 0) = true := bne_iff_ne.mpr c6
      obtain rfl := Option.some.inj H
      go_enter Try.func72, Try.ntmps72
      try go_wp2_with (first | ((with_reducible refine gate_dst (N := 2) rfl ?_); refine box_event ?hg (N := 2) ?hd (cs := #[.int .i64 a0_0, .int .i64 a0_1, .int .i64 a0_2, .int .i64 a0_3, .slice A0_4 l0_4.length c0_4, .slice A0_5 l0_5.length c0_5]) (t := 31) ?hr ?_; (case hd => rfl); (case hg => rfl); (case hr => first | (go_simp; done) | (go_simp; rfl)); intro gb192 hg w7 hbox hb; have n0_ := Aside0.mk (below_step (by repeat (first | (with_reducible first | exact HB.out | apply below_alloc | apply pw_below_drewN | apply below_drew1) | exact HB.out)) hb); have n1_ := Aside0.mk (hbox); have n2_ := Aside0.mk ((by rw [hg]; exact (below_size (by repeat (first | (with_reducible first | exact HB.out | apply below_alloc | apply pw_below_drewN | apply below_drew1) | exact HB.out))) : w.heap.size ≤ gb192)); have n3_ := Aside0.mk ((by rw [hg]; exact (below_size (by repeat (first | (with_reducible first | exact HB.out | apply below_alloc | apply pw_below_drewN | apply below_drew1) | exact HB.out))) : w.heap.size ≤ gb192)); clear HB; have HB := n0_; have BK192 := n1_; have GW192 := n2_; have GE192 := n3_; clear n0_ n1_ n2_ n3_; clear hb hbox hg))
      have n0_ := Aside0.mk (blk_drew BK192.out)
      have n1_ := Aside0.mk (below_drew1 HB.out)
      clear BK192
      clear HB
      have BK192 := n0_
      have HB := n1_
      clear n0_ n1_
      refine start_ (n := 14) (S := fun w' => w'.cell? ⟨gb192, 0, none⟩ = some (.int .i64 a0_0) ∧ w'.cell? ⟨gb192, 1, none⟩ = some (.int .i64 a0_1) ∧ w'.cell? ⟨gb192, 2, none⟩ = some (.int .i64 a0_2) ∧ w'.cell? ⟨gb192, 3, none⟩ = some (.int .i64 a0_3) ∧ w'.cell? ⟨gb192, 4, none⟩ = some (.slice A0_4 l0_4.length c0_4) ∧ w'.cell? ⟨gb192, 5, none⟩ = some (.slice A0_5 l0_5.length c0_5)) (ds := []) #[false, false, false, false, false, false, false, false, false, false, false, false, false, false] (by kernel_rfl) rfl rfl ⟨(blk_cell BK192.out 0).trans rfl, (blk_cell BK192.out 1).trans rfl, (blk_cell BK192.out 2).trans rfl, (blk_cell BK192.out 3).trans rfl, (blk_cell BK192.out 4).trans rfl, (blk_cell BK192.out 5).trans rfl⟩ (fun hHeld => ?_); refine with_tabW impl_BadTable_home.tab1 impl_BadTable_home.bits1 (fun HT_ HW_ => ?_)
      generalize w7.drew = w8 at BK192 HB hHeld ⊢
      refine pure_ (i := 0) (N := some 5) (v := ?_) (a' := ?_) #[true, false, false, false, false, false, false, false, false, false, false, false, false, false] rfl rfl (any_of HT_.out (by kernel_rfl)) (fun _ _ _ h => h) (Or.inl ⟨by rfl, ?_⟩) ?_ ?_
      rotate_left
      · intro w'
        go_simp
        with_reducible rfl
      rotate_left
      · simp only [Act.put, List.setIfInBounds_toArray, List.set_cons_zero, List.set_cons_succ, i64_w, i32_w]
        rfl
      refine pure_ (i := 4) (N := some 9) (v := ?_) (a' := ?_) #[true, false, false, false, true, false, false, false, false, false, false, false, false, false] rfl rfl (any_of HT_.out (by kernel_rfl)) (fun _ _ _ h => h) (Or.inl ⟨by rfl, ?_⟩) ?_ ?_
      rotate_left
      · intro w'
        go_simp
        with_reducible rfl
      rotate_left
      · simp only [Act.put, List.setIfInBounds_toArray, List.set_cons_zero, List.set_cons_succ, i64_w, i32_w]
        rfl
      refine pure_ (i := 5) (N := some 10) (v := ?_) (a' := ?_) #[true, false, false, false, true, true, false, false, false, false, false, false, false, false] rfl rfl (any_of HT_.out (by kernel_rfl)) (fun _ _ _ h => h) (Or.inl ⟨by rfl, ?_⟩) ?_ ?_
      rotate_left
      · intro w'
        go_simp
        with_reducible rfl
      rotate_left
      · simp only [Act.put, List.setIfInBounds_toArray, List.set_cons_zero, List.set_cons_succ, i64_w, i32_w]
        rfl
      refine pure_ (i := 8) (N := some 13) (v := ?_) (a' := ?_) #[true, false, false, false, true, true, false, false, true, false, false, false, false, false] rfl rfl (any_of HT_.out (by kernel_rfl)) (fun _ _ _ h => h) (Or.inl ⟨by rfl, ?_⟩) ?_ ?_
      rotate_left
      · intro w'
        go_simp
        with_reducible rfl
      rotate_left
      · simp only [Act.put, List.setIfInBounds_toArray, List.set_cons_zero, List.set_cons_succ, i64_w, i32_w]
        rfl
      refine take_ (i := 1) (N := some 6) (v := ?_) (a' := ?_) #[true, true, false, false, true, true, false, false, true, false, false, false, false, false] rfl rfl (take_ofW HT_.out HW_.out (by kernel_rfl)) (fun _ _ _ h => h) (Or.inl ⟨by rfl, ?_⟩) hHeld ?_ ?_
      rotate_left
      · rintro w' ⟨s0, s1, s2, s3, s4, s5⟩
        go_simp
        with_reducible rfl
      rotate_left
      · simp only [Act.put, List.setIfInBounds_toArray, List.set_cons_zero, List.set_cons_succ, i64_w, i32_w]
        rfl
      refine take_ (i := 6) (N := some 11) (v := ?_) (a' := ?_) #[true, true, false, false, true, true, true, false, true, false, false, false, false, false] rfl rfl (take_ofW HT_.out HW_.out (by kernel_rfl)) (fun _ _ _ h => h) (Or.inl ⟨by rfl, ?_⟩) hHeld ?_ ?_
      rotate_left
      · rintro w' ⟨s0, s1, s2, s3, s4, s5⟩
        go_simp
        with_reducible rfl
      rotate_left
      · simp only [Act.put, List.setIfInBounds_toArray, List.set_cons_zero, List.set_cons_succ, i64_w, i32_w]
        rfl
      refine take_ (i := 9) (N := some 14) (v := ?_) (a' := ?_) #[true, true, false, false, true, true, true, false, true, true, false, false, false, false] rfl rfl (take_ofW HT_.out HW_.out (by kernel_rfl)) (fun _ _ _ h => h) (Or.inl ⟨by rfl, ?_⟩) hHeld ?_ ?_
      rotate_left
      · rintro w' ⟨s0, s1, s2, s3, s4, s5⟩
        go_simp
        with_reducible rfl
      rotate_left
      · simp only [Act.put, List.setIfInBounds_toArray, List.set_cons_zero, List.set_cons_succ, i64_w, i32_w]
        rfl
      refine one_ (i := 2) (N := some 7) #[true, true, true, false, true, true, true, false, true, true, false, false, false, false] rfl rfl (one_of HT_.out (by kernel_rfl)) (by decide) (fun K hK => ?_)
      refine goes_ Try.func97 (by kernel_rfl) rfl #[.agg #[.int .i64 a0_0, .int .i64 a0_1, .int .i64 a0_2, .int .i64 a0_3, .slice A0_4 l0_4.length c0_4, .slice A0_5 l0_5.length c0_5]] (by rfl) rfl rfl (by (try simp only [List.map_toArray, List.map_cons, List.map_nil]); first | done | rfl | (simp only [List.length_drop, List.length_take]; rfl)) ?_
      with_reducible refine (impl_BadTable_primary.calls a0_0 a0_1 a0_2 a0_3 _ _ l0_4 _ _ l0_5 t193 _ ?side1 ?side2 ?side3 ?side4 A3.out).mono ?_
      (case side1 => repeat (first | exact (Kd.C_below HR0_4.out HB.out) | (with_reducible refine Kd.C_alloc ?_ _) | (with_reducible refine Kd.C_drewN ?_ _) | (with_reducible refine Kd.C_drew ?_)))
      (case side2 => exact HC0_4.out)
      (case side3 => repeat (first | exact (Kd.C_below HR0_5.out HB.out) | (with_reducible refine Kd.C_alloc ?_ _) | (with_reducible refine Kd.C_drewN ?_ _) | (with_reducible refine Kd.C_drew ?_)))
      (case side4 => exact HC0_5.out)
      rintro e w9 ⟨rfl, hb⟩
      refine ⟨_, rfl, ?_⟩
      have n0_ := Aside0.mk (blk_below (g := gb192) (o := .cells #[.int .i64 a0_0, .int .i64 a0_1, .int .i64 a0_2, .int .i64 a0_3, .slice A0_4 l0_4.length c0_4, .slice A0_5 l0_5.length c0_5] 31 (0, 0)) (by (with_reducible repeat (first | refine blk_drewN ?_ _ | refine blk_drew ?_ | refine blk_alloc ?_ _)); exact BK192.out) hb)
      have n1_ := Aside0.mk (below_step (by repeat (first | (with_reducible first | exact HB.out | apply below_alloc | apply pw_below_drewN | apply below_drew1 | refine below_set ?_ GE192.out) | exact HB.out)) hb)
      clear BK192
      clear HB
      have BK192 := n0_
      have HB := n1_
      clear n0_ n1_
      (try clear hb)
      (try clear hb2)
      (try clear hk)
      (try clear hi)
      refine hK.out _ _ ⟨(blk_cell BK192.out 0).trans rfl, (blk_cell BK192.out 1).trans rfl, (blk_cell BK192.out 2).trans rfl, (blk_cell BK192.out 3).trans rfl, (blk_cell BK192.out 4).trans rfl, (blk_cell BK192.out 5).trans rfl⟩ (fun hHeld => ?_)
      clear hK K
      refine norm_ (a' := ?_) ?_ ?_
      rotate_left
      · show Act.put _ (some 7) _ = _
        simp only [Act.put, List.setIfInBounds_toArray, List.set_cons_zero, List.set_cons_succ, i64_w, i32_w]
        rfl
      refine pure_ (i := 3) (N := some 8) (v := ?_) (a' := ?_) #[true, true, true, true, true, true, true, false, true, true, false, false, false, false] rfl rfl (any_of HT_.out (by kernel_rfl)) (fun _ _ _ h => h) (Or.inl ⟨by rfl, ?_⟩) ?_ ?_
      rotate_left
      · intro w'
        go_simp
        with_reducible rfl
      rotate_left
      · simp only [Act.put, List.setIfInBounds_toArray, List.set_cons_zero, List.set_cons_succ, i64_w, i32_w]
        rfl
      refine pure_ (i := 7) (N := some 12) (v := ?_) (a' := ?_) #[true, true, true, true, true, true, true, true, true, true, false, false, false, false] rfl rfl (any_of HT_.out (by kernel_rfl)) (fun _ _ _ h => h) (Or.inl ⟨by rfl, ?_⟩) ?_ ?_
      rotate_left
      · intro w'
        go_simp
        with_reducible rfl
      rotate_left
      · simp only [Act.put, List.setIfInBounds_toArray, List.set_cons_zero, List.set_cons_succ, i64_w, i32_w]
        rfl
      refine one_ (i := 10) (N := some 15) #[true, true, true, true, true, true, true, true, true, true, true, false, false, false] rfl rfl (one_of HT_.out (by kernel_rfl)) (by decide) (fun K hK => ?_)
      refine goes_ Try.func97 (by kernel_rfl) rfl #[.agg #[.int .i64 a0_0, .int .i64 a0_1, .int .i64 a0_2, .int .i64 a0_3, .slice A0_4 l0_4.length c0_4, .slice A0_5 l0_5.length c0_5]] (by rfl) rfl rfl (by (try simp only [List.map_toArray, List.map_cons, List.map_nil]); first | done | rfl | (simp only [List.length_drop, List.length_take]; rfl)) ?_
      with_reducible refine (impl_BadTable_primary.calls a0_0 a0_1 a0_2 a0_3 _ _ l0_4 _ _ l0_5 t194 _ ?side1 ?side2 ?side3 ?side4 A5.out).mono ?_
      (case side1 => repeat (first | exact (Kd.C_below HR0_4.out HB.out) | (with_reducible refine Kd.C_alloc ?_ _) | (with_reducible refine Kd.C_drewN ?_ _) | (with_reducible refine Kd.C_drew ?_)))
      (case side2 => exact HC0_4.out)
      (case side3 => repeat (first | exact (Kd.C_below HR0_5.out HB.out) | (with_reducible refine Kd.C_alloc ?_ _) | (with_reducible refine Kd.C_drewN ?_ _) | (with_reducible refine Kd.C_drew ?_)))
      (case side4 => exact HC0_5.out)
      rintro e w10 ⟨rfl, hb⟩
      refine ⟨_, rfl, ?_⟩
      have n0_ := Aside0.mk (blk_below (g := gb192) (o := .cells #[.int .i64 a0_0, .int .i64 a0_1, .int .i64 a0_2, .int .i64 a0_3, .slice A0_4 l0_4.length c0_4, .slice A0_5 l0_5.length c0_5] 31 (0, 0)) (by (with_reducible repeat (first | refine blk_drewN ?_ _ | refine blk_drew ?_ | refine blk_alloc ?_ _)); exact BK192.out) hb)
      have n1_ := Aside0.mk (below_step (by repeat (first | (with_reducible first | exact HB.out | apply below_alloc | apply pw_below_drewN | apply below_drew1 | refine below_set ?_ GE192.out) | exact HB.out)) hb)
      clear BK192
      clear HB
      have BK192 := n0_
      have HB := n1_
      clear n0_ n1_
      (try clear hb)
      (try clear hb2)
      (try clear hk)
      (try clear hi)
      refine hK.out _ _ ⟨(blk_cell BK192.out 0).trans rfl, (blk_cell BK192.out 1).trans rfl, (blk_cell BK192.out 2).trans rfl, (blk_cell BK192.out 3).trans rfl, (blk_cell BK192.out 4).trans rfl, (blk_cell BK192.out 5).trans rfl⟩ (fun hHeld => ?_)
      clear hK K
      refine norm_ (a' := ?_) ?_ ?_
      rotate_left
      · show Act.put _ (some 15) _ = _
        simp only [Act.put, List.setIfInBounds_toArray, List.set_cons_zero, List.set_cons_succ, i64_w, i32_w]
        rfl
      refine pure_ (i := 11) (N := some 16) (v := ?_) (a' := ?_) #[true, true, true, true, true, true, true, true, true, true, true, true, false, false] rfl rfl (any_of HT_.out (by kernel_rfl)) (fun _ _ _ h => h) (Or.inl ⟨by rfl, ?_⟩) ?_ ?_
      rotate_left
      · intro w'
        go_simp
        with_reducible rfl
      rotate_left
      · simp only [Act.put, List.setIfInBounds_toArray, List.set_cons_zero, List.set_cons_succ, i64_w, i32_w]
        rfl
      refine pure_ (i := 12) (N := some 17) (v := ?_) (a' := ?_) #[true, true, true, true, true, true, true, true, true, true, true, true, true, false] rfl rfl (any_of HT_.out (by kernel_rfl)) (fun _ _ _ h => h) (Or.inl ⟨by rfl, ?_⟩) ?_ ?_
      rotate_left
      · intro w'
        go_simp
        with_reducible rfl
      rotate_left
      · simp only [Act.put, List.setIfInBounds_toArray, List.set_cons_zero, List.set_cons_succ, i64_w, i32_w]
        rfl
      refine pure_ (i := 13) (N := some 4) (v := ?_) (a' := ?_) #[true, true, true, true, true, true, true, true, true, true, true, true, true, true] rfl rfl (any_of HT_.out (by kernel_rfl)) (fun _ _ _ h => h) (Or.inl ⟨by rfl, ?_⟩) ?_ ?_
      rotate_left
      · intro w'
        go_simp
        with_reducible rfl
      rotate_left
      · simp only [Act.put, List.setIfInBounds_toArray, List.set_cons_zero, List.set_cons_succ, i64_w, i32_w]
        rfl
      refine done_ (done_of HT_.out (by kernel_rfl)) ?_
      try go_wp2
      go_ret
      exact ⟨by first | rfl | (simp [errW_none, errW_some] <;> rfl) | (simp [*, errW_none, errW_some] <;> rfl), by repeat (first | (with_reducible first | exact HB.out | apply below_alloc | apply pw_below_drewN | apply below_drew1 | refine below_set ?_ GE192.out) | exact HB.out)⟩

end Go.Proofs.Ytchpgjhbmeokaaa.QFnExactNewBadTable
