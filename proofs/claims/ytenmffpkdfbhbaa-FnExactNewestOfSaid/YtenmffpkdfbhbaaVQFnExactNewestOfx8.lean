-- Written by mp.py, a program of this session over the kit's print; the session answers for it, Lean checks it.
import Derived.Test.YtenmffpkdfbhbaaVQFnExactNewestOfx0
import Derived.Test.YtenmffpkdfbhbaaVQFnExactNewestOfx7
namespace Go.Proofs.Ytenmffpkdfbhbaa.QFnExactNewestOf
open Go.RowKit Go.Proofs.Ytenmffpkdfbhbaa.Hand Go.Proofs.YtenmffpkdfbhbaaW.PrintWords Go.Proofs.YtenmffpkdfbhbaaW.PrintLast Go.Proofs.YtenmffpkdfbhbaaW.PrintMore
attribute [local go_sem] max2_int min2_int max_two min_two max_three min_three max_four min_four   -- for this text's walks alone
set_option linter.unusedVariables false
set_option linter.unusedSimpArgs false

-- NOT PRINTED: function 112 (impl_complete_1)

-- NOT PRINTED: function 132 (impl_Found_132)

-- NOT PRINTED: function 113 (impl_Found_113)

/-! ### impl_complete: function 67 (a text of the session's own) -/
set_option maxHeartbeats 8000000 in
set_option maxRecDepth 100000 in
theorem index_C57 (p : S57 → Bool) (g : Nat) (lb : Array Value) (eg : ∀ args w, (callFunc g args).run Try.prog w = .ok (.enter g args) w) (A0 : Option Addr) (c0 : Nat) (l0 : List S57) (w : World) (hr0 : Kd.C k57 w A0 l0.length l0) (hl : l0.length ≤ 9223372036854775807)
    (hp : ∀ (W : World) (x : S57), Below w.heap.size w W → Calls Try.prog g (#[.agg #[.int .i64 x.f0, .int .i64 x.f1.f0, .int .i64 x.f1.f1, .int .i64 x.f1.f2, .int .i64 x.f1.f3, .int .i64 x.f1.f4]] ++ lb) W fun e w' => e = .returned (.bool (p x)) ∧ Below w.heap.size w w') :
    Calls Try.prog 132 #[.slice A0 l0.length c0, .func (.func g) #[] lb] w fun e w' => e = .returned (.int .i64 (idxF p l0)) ∧ Below w.heap.size w w' := by
  have hu31 := Try.underlying31
  have hu57 := Try.underlying57
  have HR0 := Aside0.mk hr0
  clear hr0
  have HP := Aside0.mk hp
  clear hp
  go_enter Try.func132, Try.ntmps132
  go_wp2
  go_loopg [5, 8] l0.length (fun gg _ v8 w' => ∃ kk : Nat, v8 = .int .i64 kk ∧ Aside0 (kk ≤ l0.length) ∧ Aside0 (l0.length - kk ≤ gg) ∧ Aside0 (Below w.heap.size w w') ∧ Aside0 (∀ j, j < kk → p (l0.getD j z57) = false))
  case atStart => exact ⟨0, rfl, ⟨Nat.zero_le _⟩, ⟨by omega⟩, ⟨Below.refl _ _⟩, ⟨fun j hj => absurd hj (Nat.not_lt_zero _)⟩⟩
  case round =>
    obtain ⟨kk, rfl, HKK, HG, HB, HA⟩ := hrel
    by_cases c7 : (kk : Int) < (l0.length : Int)
    · have c7b0 : decide ((kk : Int) < (l0.length : Int)) = true := decide_eq_true c7
      have c7b1 : decide (kk < l0.length) = true := decide_eq_true (by omega)
      have HC7 := Aside0.mk c7
      have p1 : 0 ≤ (kk : Int) := by omega
      obtain ⟨ad, e, h0, h1, h2, h3, h4, h5⟩ := at_T57 (Kd.C_below HR0.out HB.out) (kk : Int) p1 c7
      cases e
      simp only [Int.toNat_natCast] at h0 h1 h2 h3 h4 h5
      have hcall := HP.out wr (rd_T57 l0 (kk : Int)) HB.out
      have q1 : (kk < l0.length) = True := eq_true (by omega)
      clear c7 p1
      cases hq : p (rd_T57 l0 (kk : Int)) with
      | true =>
        rw [hq] at hcall
        have HQ := Aside0.mk hq
        clear hq
        go_wp2_with (go_at_fn g; refine hcall.mono ?_; rintro e w' ⟨rfl, hb'⟩)
        go_ret
        refine ⟨?_, hb'⟩
        rw [idxF_hit p z57 l0 kk (by have := HC7.out; omega) HQ.out HA.out]
        rfl
      | false =>
        rw [hq] at hcall
        have HQ := Aside0.mk hq
        clear hq
        go_wp2_with (go_at_fn g; refine hcall.mono ?_; rintro e w' ⟨rfl, hb'⟩)
        go_roundg (l0.length - (kk + 1))
        case measure => have := HC7.out; have := HG.out; omega
        case rel =>
          refine ⟨kk + 1, by rw [show wrap64 ((kk : Int) + 1) = ((kk + 1 : Nat) : Int) by have := HC7.out; unfold wrap64; omega], ⟨by have := HC7.out; omega⟩, ⟨by omega⟩, ⟨hb'⟩, ⟨fun j hj => ?_⟩⟩
          by_cases e : j = kk
          · subst e
            exact HQ.out
          · exact HA.out j (by omega)
    · have c7b0 : decide ((kk : Int) < (l0.length : Int)) = false := decide_eq_false c7
      have c7b1 : decide (kk < l0.length) = false := decide_eq_false (by omega)
      have HC7 := Aside0.mk c7
      clear c7
      go_wp2
      go_ret
      refine ⟨?_, HB.out⟩
      rw [idxF_miss p z57 l0 (fun j hj => HA.out j (by have := HC7.out; omega))]
      rfl
set_option maxHeartbeats 8000000 in
set_option maxRecDepth 100000 in
theorem contains_C57 (p : S57 → Bool) (g : Nat) (lb : Array Value) (eg : ∀ args w, (callFunc g args).run Try.prog w = .ok (.enter g args) w) (A0 : Option Addr) (c0 : Nat) (l0 : List S57) (w : World) (hr0 : Kd.C k57 w A0 l0.length l0) (hl : l0.length ≤ 9223372036854775807)
    (hp : ∀ (W : World) (x : S57), Below w.heap.size w W → Calls Try.prog g (#[.agg #[.int .i64 x.f0, .int .i64 x.f1.f0, .int .i64 x.f1.f1, .int .i64 x.f1.f2, .int .i64 x.f1.f3, .int .i64 x.f1.f4]] ++ lb) W fun e w' => e = .returned (.bool (p x)) ∧ Below w.heap.size w w') :
    Calls Try.prog 113 #[.slice A0 l0.length c0, .func (.func g) #[] lb] w fun e w' => e = .returned (.bool (l0.any p)) ∧ Below w.heap.size w w' := by
  rw [← idxF_any]
  have HX := Aside0.mk (index_C57 p g lb eg A0 c0 l0 w hr0 hl hp)
  clear hr0 hl hp
  go_enter Try.func113, Try.ntmps113
  go_wp2_with (go_at_call 132; refine HX.out.mono ?_; rintro e w' ⟨rfl, hb'⟩)
  go_ret
  exact ⟨rfl, hb'⟩
/-- Is this the page of a group with a given number? -/
def isP (first count seq : Int) (x : S57) : Bool := (x.f1.f0 == 2) && ((x.f1.f3 == first) && ((x.f1.f4 == count) && (x.f1.f2 == seq)))
set_option maxHeartbeats 8000000 in
set_option maxRecDepth 100000 in
theorem lit_112 (first count seq : Int) (b1 b2 b3 : Nat) (x : S57) (W : World) (h1 : W.cell? ⟨b1, 0, none⟩ = some (.int .i64 first)) (h2 : W.cell? ⟨b2, 0, none⟩ = some (.int .i64 count)) (h3 : W.cell? ⟨b3, 0, none⟩ = some (.int .i64 seq)) (l1 : b1 < W.heap.size) (l2 : b2 < W.heap.size) (l3 : b3 < W.heap.size) :
    Calls Try.prog 112 (#[.agg #[.int .i64 x.f0, .int .i64 x.f1.f0, .int .i64 x.f1.f1, .int .i64 x.f1.f2, .int .i64 x.f1.f3, .int .i64 x.f1.f4]] ++ #[.pointer (some ⟨b1, 0, none⟩), .pointer (some ⟨b2, 0, none⟩), .pointer (some ⟨b3, 0, none⟩)]) W fun e w' => e = .returned (.bool (isP first count seq x)) ∧ Below W.heap.size W w' := by
  have hu57 := Try.underlying57
  have hu55 := Try.underlying55
  have HB := Aside0.mk (Below.refl W.heap.size W)
  unfold isP
  cases c1 : (x.f1.f0 == 2)
  case false =>
    rw [Bool.false_and]
    go_enter Try.func112, Try.ntmps112
    go_wp2
    go_ret
    exact ⟨rfl, by repeat (first | (with_reducible first | exact HB.out | apply below_alloc | apply pw_below_drewN | apply below_drew1) | exact HB.out)⟩
  case true =>
    rw [Bool.true_and]
    cases c2 : (x.f1.f3 == first)
    case false =>
      rw [Bool.false_and]
      go_enter Try.func112, Try.ntmps112
      go_wp2
      go_ret
      exact ⟨rfl, by repeat (first | (with_reducible first | exact HB.out | apply below_alloc | apply pw_below_drewN | apply below_drew1) | exact HB.out)⟩
    case true =>
      rw [Bool.true_and]
      cases c3 : (x.f1.f4 == count)
      case false =>
        rw [Bool.false_and]
        go_enter Try.func112, Try.ntmps112
        go_wp2
        go_ret
        exact ⟨rfl, by repeat (first | (with_reducible first | exact HB.out | apply below_alloc | apply pw_below_drewN | apply below_drew1) | exact HB.out)⟩
      case true =>
        rw [Bool.true_and]
        go_enter Try.func112, Try.ntmps112
        go_wp2
        go_ret
        exact ⟨rfl, by repeat (first | (with_reducible first | exact HB.out | apply below_alloc | apply pw_below_drewN | apply below_drew1) | exact HB.out)⟩
theorem three_cells (w : World) (a b c : Value) (t : TypeId) : (((w.alloc (.cells #[a] t)).alloc (.cells #[b] t)).alloc (.cells #[c] t)).cell? ⟨w.heap.size + 1 + 1, 0, none⟩ = some c ∧ (((w.alloc (.cells #[a] t)).alloc (.cells #[b] t)).alloc (.cells #[c] t)).cell? ⟨w.heap.size, 0, none⟩ = some a ∧ (((w.alloc (.cells #[a] t)).alloc (.cells #[b] t)).alloc (.cells #[c] t)).cell? ⟨w.heap.size + 1, 0, none⟩ = some b ∧ (((w.alloc (.cells #[a] t)).alloc (.cells #[b] t)).alloc (.cells #[c] t)).heap.size = w.heap.size + 3 := by
  have s1 : (w.heap.push (.cells #[a] t)).size = w.heap.size + 1 := Array.size_push _
  have s2 : ((w.heap.push (.cells #[a] t)).push (.cells #[b] t)).size = w.heap.size + 1 + 1 := by rw [Array.size_push, s1]
  have s3 : (((w.heap.push (.cells #[a] t)).push (.cells #[b] t)).push (.cells #[c] t)).size = w.heap.size + 3 := by rw [Array.size_push, s2]
  have hh : (((w.alloc (.cells #[a] t)).alloc (.cells #[b] t)).alloc (.cells #[c] t)).heap = ((w.heap.push (.cells #[a] t)).push (.cells #[b] t)).push (.cells #[c] t) := rfl
  unfold World.cell?
  rw [hh]
  refine ⟨?_, ?_, ?_, s3⟩
  · rw [show (⟨w.heap.size + 1 + 1, 0, none⟩ : Addr).block = ((w.heap.push (.cells #[a] t)).push (.cells #[b] t)).size from s2.symm, Array.getElem?_push_size]
    rfl
  · have h0 : (((w.heap.push (.cells #[a] t)).push (.cells #[b] t)).push (.cells #[c] t))[w.heap.size]? = some (.cells #[a] t) := by
      rw [Array.getElem?_push_lt (by omega), ← Array.getElem?_eq_getElem, Array.getElem?_push_lt (by omega), ← Array.getElem?_eq_getElem, Array.getElem?_push_size]
    simp only [h0]
    rfl
  · have h0 : (((w.heap.push (.cells #[a] t)).push (.cells #[b] t)).push (.cells #[c] t))[w.heap.size + 1]? = some (.cells #[b] t) := by
      rw [Array.getElem?_push_lt (by omega), ← Array.getElem?_eq_getElem, ← s1, Array.getElem?_push_size]
    simp only [h0]
    rfl
theorem one_cell (w : World) (c : Value) (t : TypeId) : (w.alloc (.cells #[c] t)).cell? ⟨w.heap.size, 0, none⟩ = some c := by
  have hh : (w.alloc (.cells #[c] t)).heap[w.heap.size]? = some (.cells #[c] t) := Array.getElem?_push_size
  unfold World.cell?
  simp only [hh]
  rfl
/-- From number j on: is each of a group there? -/
def compB (l : List (S57)) (first count : Int) : Nat → Nat → Bool
  | 0, _ => true
  | d + 1, j => l.any (isP first count (first + (j : Int))) && compB l first count d (j + 1)
def impl_complete.f (l0 : List (S57)) (a1 a2 : Int) : Option Bool := if 0 ≤ a1 ∧ a1 ≤ 1000000000000 ∧ 0 ≤ a2 ∧ a2 ≤ 1000000 then some (compB l0 a1 a2 a2.toNat 0) else none
set_option maxHeartbeats 8000000 in
set_option maxRecDepth 100000 in
theorem impl_complete.calls (A0 : Option Addr) (c0 : Nat) (l0 : List (S57)) (a1 : Int) (a2 : Int) (r : Bool) (w : World) (hr0 : Kd.C k57 w A0 l0.length l0) (hc0 : l0.length ≤ c0) (h : impl_complete.f l0 a1 a2 = some r) :
    Calls Try.prog 67 #[.slice A0 l0.length c0, .int .i64 a1, .int .i64 a2] w fun e w' => e = .returned (.bool r) ∧ Below w.heap.size w w' := by
  unfold impl_complete.f at h
  by_cases hc : 0 ≤ a1 ∧ a1 ≤ 1000000000000 ∧ 0 ≤ a2 ∧ a2 ≤ 1000000
  case neg =>
    rw [if_neg hc] at h
    exact absurd h (by simp)
  rw [if_pos hc] at h
  obtain rfl := Option.some.inj h
  clear h
  obtain ⟨m, rfl⟩ : ∃ m : Nat, a2 = m := ⟨a2.toNat, by omega⟩
  have em : ((m : Int)).toNat = m := by omega
  rw [em]
  have HC := Aside0.mk hc
  have hl : l0.length ≤ 9223372036854775807 := hr0.2.1
  have HR0 := Aside0.mk hr0
  have HL := Aside0.mk hl
  clear hr0 hl hc hc0 em
  have HB := Aside0.mk (Below.refl w.heap.size w)
  have HW : Aside0 (wrap64 (a1 + (m : Int)) = a1 + (m : Int)) := ⟨by have := HC.out; unfold wrap64; omega⟩
  go_enter Try.func67, Try.ntmps67
  go_wp2
  go_loopg [7] (m + 1) (fun gg v7 w' => ∃ (B j : Nat), v7 = .pointer (some ⟨B, 0, none⟩) ∧ Aside0 (j ≤ m) ∧ Aside0 (m + 1 - j ≤ gg) ∧ Aside0 (w'.cell? ⟨B, 0, none⟩ = some (.int .i64 (a1 + (j : Int)))) ∧ Aside0 (w'.cell? ⟨w.heap.size, 0, none⟩ = some (.int .i64 a1)) ∧ Aside0 (w'.cell? ⟨w.heap.size + 1, 0, none⟩ = some (.int .i64 (m : Int))) ∧ Aside0 (w.heap.size + 2 ≤ B ∧ B < w'.heap.size) ∧ Aside0 (Below w.heap.size w w') ∧ Aside0 (compB l0 a1 (m : Int) m 0 = compB l0 a1 (m : Int) (m - j) j))
  case atStart =>
    obtain ⟨t1, t2, t3, t4⟩ := three_cells w (.int .i64 a1) (.int .i64 (m : Int)) (.int .i64 a1) 2
    exact ⟨w.heap.size + 1 + 1, 0, rfl, ⟨Nat.zero_le _⟩, ⟨by omega⟩, ⟨by rw [t1]; simp⟩, ⟨t2⟩, ⟨t3⟩, ⟨by rw [t4]; omega⟩, ⟨by repeat (first | (with_reducible first | exact HB.out | apply below_alloc | apply pw_below_drewN | apply below_drew1) | exact HB.out)⟩, ⟨by rw [Nat.sub_zero]⟩⟩
  case round =>
    obtain ⟨B, j, rfl, HJ, HG, H1, H2, H3, H4, HB2, HA⟩ := hrel
    have h1 := H1.out
    have h2 := H2.out
    have h3 := H3.out
    have hw := HW.out
    by_cases c7 : j < m
    · have c7b0 : decide (a1 + (j : Int) < a1 + (m : Int)) = true := decide_eq_true (by omega)
      have c7b1 : decide (j < m) = true := decide_eq_true c7
      have HC7 := Aside0.mk c7
      have hany := contains_C57 (isP a1 (m : Int) (a1 + (j : Int))) 112 #[.pointer (some ⟨w.heap.size, 0, none⟩), .pointer (some ⟨w.heap.size + 1, 0, none⟩), .pointer (some ⟨B, 0, none⟩)] (enters_of Try.func112 (by kernel_rfl) rfl) A0 c0 l0 wr (Kd.C_below HR0.out HB2.out) HL.out (fun W x hb => (lit_112 a1 (m : Int) (a1 + (j : Int)) w.heap.size (w.heap.size + 1) B x W ((hb.cell (p := ⟨w.heap.size, 0, none⟩) (by have := H4.out; show w.heap.size < _; omega)).trans H2.out) ((hb.cell (p := ⟨w.heap.size + 1, 0, none⟩) (by have := H4.out; show w.heap.size + 1 < _; omega)).trans H3.out) ((hb.cell (p := ⟨B, 0, none⟩) (by have := H4.out; show B < _; omega)).trans H1.out) (by have := H4.out; have := hb.size; omega) (by have := H4.out; have := hb.size; omega) (by have := H4.out; have := hb.size; omega)).mono (fun e w' ⟨he, hb2⟩ => ⟨he, hb.trans (hb2.mono hb.size)⟩))
      have HANY := Aside0.mk hany
      clear c7 hany
      obtain ⟨d, hd⟩ : ∃ d, m - j = d + 1 := ⟨m - j - 1, by have := HC7.out; omega⟩
      have HA2 : Aside0 (compB l0 a1 (m : Int) m 0 = (l0.any (isP a1 (m : Int) (a1 + (j : Int))) && compB l0 a1 (m : Int) d (j + 1))) := ⟨by rw [HA.out, hd]; rfl⟩
      have HD := Aside0.mk hd
      clear hd
      cases hq : l0.any (isP a1 (m : Int) (a1 + (j : Int))) with
      | false =>
        rw [hq] at HANY HA2
        clear hq
        go_wp2_with (go_at_call 113; refine HANY.out.mono ?_; rintro e w' ⟨rfl, hb'⟩)
        go_ret
        refine ⟨?_, below_step HB2.out hb'⟩
        rw [HA2.out, Bool.false_and]
        rfl
      | true =>
        rw [hq] at HANY HA2
        clear hq
        go_wp2_with (go_at_call 113; refine HANY.out.mono ?_; rintro e w' ⟨rfl, hb'⟩; have g1 := (hb'.cell (p := ⟨B, 0, none⟩) (by have := H4.out; show B < _; omega)).trans H1.out; have g2 := Aside0.mk ((hb'.cell (p := ⟨w.heap.size, 0, none⟩) (by have := H4.out; show w.heap.size < _; omega)).trans H2.out); have g3 := Aside0.mk ((hb'.cell (p := ⟨w.heap.size + 1, 0, none⟩) (by have := H4.out; show w.heap.size + 1 < _; omega)).trans H3.out); have g4 := Aside0.mk (below_step HB2.out hb'); have g5 := Aside0.mk hb'.size; clear h1 h2 h3)
        have hw9 : wrap64 (a1 + (j : Int) + 1) = a1 + ((j + 1 : Nat) : Int) := by have := HC.out; have := HC7.out; unfold wrap64; omega
        rw [hw9]
        have HW9 := Aside0.mk hw9
        clear hw9
        go_roundg (m + 1 - (j + 1))
        case measure => have := HC7.out; have := HG.out; omega
        case rel =>
          exact ⟨w'.heap.size, j + 1, rfl, ⟨by have := HC7.out; omega⟩, ⟨by omega⟩, ⟨one_cell w' _ 2⟩, ⟨(World.cell?_alloc_lt _ _ _ (World.block_lt_of_cell? w' _ g2.out)).trans g2.out⟩, ⟨(World.cell?_alloc_lt _ _ _ (World.block_lt_of_cell? w' _ g3.out)).trans g3.out⟩, ⟨by have := H4.out; have := g5.out; simp <;> omega⟩, ⟨below_alloc g4.out _⟩, ⟨by have hd := HD.out; rw [HA2.out, show m - (j + 1) = d by omega]; rfl⟩⟩
    · have c7b0 : decide (a1 + (j : Int) < a1 + (m : Int)) = false := decide_eq_false (by omega)
      have c7b1 : decide (j < m) = false := decide_eq_false c7
      have HC7 := Aside0.mk c7
      clear c7
      go_wp2
      go_ret
      refine ⟨?_, HB2.out⟩
      have hj : m - j = 0 := by have := HC7.out; omega
      rw [HA.out, hj]
      rfl

/-! ### impl_committed: function 119 -/
def impl_committed.f (l0 : List (S57)) (a1_0 : Int) (a1_1 : Int) (a1_2 : Int) (a1_3 : Int) (a1_4 : Int) (a1_5 : Int) : Option (Bool) := if a1_1 = 2 then ((impl_complete.f l0 a1_4 a1_5).bind fun t172 => (some t172)) else (some true)
set_option maxHeartbeats 8000000 in
set_option maxRecDepth 100000 in
theorem impl_committed.calls (A0 : Option Addr) (c0 : Nat) (l0 : List (S57)) (a1_0 : Int) (a1_1 : Int) (a1_2 : Int) (a1_3 : Int) (a1_4 : Int) (a1_5 : Int) (r : Bool) (w : World) (hr0 : Kd.C k57 w A0 l0.length l0) (hc0 : l0.length ≤ c0) (h : impl_committed.f l0 a1_0 a1_1 a1_2 a1_3 a1_4 a1_5 = some r) :
    Calls Try.prog 119 #[.slice A0 l0.length c0, .agg #[.int .i64 a1_0, .int .i64 a1_1, .int .i64 a1_2, .int .i64 a1_3, .int .i64 a1_4, .int .i64 a1_5]] w fun e w' => e = .returned (.bool r) ∧ Below w.heap.size w w' := by
  have hu57 := Try.underlying57
  have HR0 := Aside0.mk hr0
  have HC0 := Aside0.mk hc0
  clear hr0 hc0
  have HB := Aside0.mk (Below.refl w.heap.size w)
  have H : (if a1_1 = 2 then ((impl_complete.f l0 a1_4 a1_5).bind fun t172 => (some t172)) else (some true)) = some r := h
  clear h
  by_cases c3 : a1_1 = 2
  · rw [if_pos c3] at H
    have c3b0 : (a1_1 == 2) = true := beq_iff_eq.mpr c3
    have c3b1 : (a1_1 != 2) = false := bne_eq_false_iff_eq.mpr c3
    clear c3
    replace H := Option.bind_eq_some_iff.mp H
    obtain ⟨t172, A40, H⟩ := H
    replace H : (some t172) = some r := H
    have A4 := Aside0.mk A40
    clear A40
    obtain rfl := Option.some.inj H
    go_enter Try.func119, Try.ntmps119
    go_wp2_with (first | ((with_reducible refine gate_dst (N := 3) rfl ?_); refine box_event ?hg (N := 3) ?hd (cs := #[.int .i64 a1_0, .int .i64 a1_1, .int .i64 a1_2, .int .i64 a1_3, .int .i64 a1_4, .int .i64 a1_5]) (t := 57) ?hr ?_; (case hd => rfl); (case hg => rfl); (case hr => first | (go_simp; done) | (go_simp; rfl)); intro gb171 hg w5 hbox hb; have n0_ := Aside0.mk (below_step (by repeat (first | (with_reducible first | exact HB.out | apply below_alloc | apply pw_below_drewN | apply below_drew1) | exact HB.out)) hb); have n1_ := Aside0.mk (hbox); have n2_ := Aside0.mk ((by rw [hg]; exact (below_size (by repeat (first | (with_reducible first | exact HB.out | apply below_alloc | apply pw_below_drewN | apply below_drew1) | exact HB.out))) : w.heap.size ≤ gb171)); have n3_ := Aside0.mk ((by rw [hg]; exact (below_size (by repeat (first | (with_reducible first | exact HB.out | apply below_alloc | apply pw_below_drewN | apply below_drew1) | exact HB.out))) : w.heap.size ≤ gb171)); clear HB; have HB := n0_; have BK171 := n1_; have GW171 := n2_; have GE171 := n3_; clear n0_ n1_ n2_ n3_; clear hb hbox hg; have hcz6_0 : w5.cell? ⟨gb171, 0, none⟩ = some (.int .i64 a1_0) := (blk_cell BK171.out 0).trans rfl; have hcz6_1 : w5.cell? ⟨gb171, 1, none⟩ = some (.int .i64 a1_1) := (blk_cell BK171.out 1).trans rfl; have hcz6_2 : w5.cell? ⟨gb171, 2, none⟩ = some (.int .i64 a1_2) := (blk_cell BK171.out 2).trans rfl; have hcz6_3 : w5.cell? ⟨gb171, 3, none⟩ = some (.int .i64 a1_3) := (blk_cell BK171.out 3).trans rfl; have hcz6_4 : w5.cell? ⟨gb171, 4, none⟩ = some (.int .i64 a1_4) := (blk_cell BK171.out 4).trans rfl; have hcz6_5 : w5.cell? ⟨gb171, 5, none⟩ = some (.int .i64 a1_5) := (blk_cell BK171.out 5).trans rfl; have hfz6_0 := blk_frozen BK171.out 0; have hfz6_1 := blk_frozen BK171.out 1; have hfz6_2 := blk_frozen BK171.out 2; have hfz6_3 := blk_frozen BK171.out 3; have hfz6_4 := blk_frozen BK171.out 4; have hfz6_5 := blk_frozen BK171.out 5) | (go_at_call 67; (with_reducible refine (impl_complete.calls _ _ l0 a1_4 a1_5 t172 _ ?side1 ?side2 A4.out).mono ?_); (case side1 => repeat (first | exact (Kd.C_below HR0.out HB.out) | (with_reducible refine Kd.C_alloc ?_ _) | (with_reducible refine Kd.C_drewN ?_ _) | (with_reducible refine Kd.C_drew ?_))); (case side2 => exact HC0.out); rintro e w7 ⟨rfl, hb⟩; have n0_ := Aside0.mk (blk_below (g := gb171) (o := .cells #[.int .i64 a1_0, .int .i64 a1_1, .int .i64 a1_2, .int .i64 a1_3, .int .i64 a1_4, .int .i64 a1_5] 57 (0, 0)) (by (with_reducible repeat (first | refine blk_drewN ?_ _ | refine blk_drew ?_ | refine blk_alloc ?_ _)); exact BK171.out) hb); have n1_ := Aside0.mk (below_step (by repeat (first | (with_reducible first | exact HB.out | apply below_alloc | apply pw_below_drewN | apply below_drew1 | refine below_set ?_ GE171.out) | exact HB.out)) hb); clear BK171; clear HB; have BK171 := n0_; have HB := n1_; clear n0_ n1_; (try clear hb); (try clear hb2); (try clear hk); (try clear hi)))
    go_ret
    exact ⟨by first | rfl | (simp [errW_none, errW_some] <;> rfl) | (simp [*, errW_none, errW_some] <;> rfl), by repeat (first | (with_reducible first | exact HB.out | apply below_alloc | apply pw_below_drewN | apply below_drew1 | refine below_set ?_ GE171.out) | exact HB.out)⟩
  · rw [if_neg c3] at H
    have c3b0 : (a1_1 == 2) = false := beq_eq_false_iff_ne.mpr c3
    have c3b1 : (a1_1 != 2) = true := bne_iff_ne.mpr c3
    obtain rfl := Option.some.inj H
    go_enter Try.func119, Try.ntmps119
    go_wp2_with (first | ((with_reducible refine gate_dst (N := 3) rfl ?_); refine box_event ?hg (N := 3) ?hd (cs := #[.int .i64 a1_0, .int .i64 a1_1, .int .i64 a1_2, .int .i64 a1_3, .int .i64 a1_4, .int .i64 a1_5]) (t := 57) ?hr ?_; (case hd => rfl); (case hg => rfl); (case hr => first | (go_simp; done) | (go_simp; rfl)); intro gb171 hg w8 hbox hb; have n0_ := Aside0.mk (below_step (by repeat (first | (with_reducible first | exact HB.out | apply below_alloc | apply pw_below_drewN | apply below_drew1) | exact HB.out)) hb); have n1_ := Aside0.mk (hbox); have n2_ := Aside0.mk ((by rw [hg]; exact (below_size (by repeat (first | (with_reducible first | exact HB.out | apply below_alloc | apply pw_below_drewN | apply below_drew1) | exact HB.out))) : w.heap.size ≤ gb171)); have n3_ := Aside0.mk ((by rw [hg]; exact (below_size (by repeat (first | (with_reducible first | exact HB.out | apply below_alloc | apply pw_below_drewN | apply below_drew1) | exact HB.out))) : w.heap.size ≤ gb171)); clear HB; have HB := n0_; have BK171 := n1_; have GW171 := n2_; have GE171 := n3_; clear n0_ n1_ n2_ n3_; clear hb hbox hg; have hcz9_0 : w8.cell? ⟨gb171, 0, none⟩ = some (.int .i64 a1_0) := (blk_cell BK171.out 0).trans rfl; have hcz9_1 : w8.cell? ⟨gb171, 1, none⟩ = some (.int .i64 a1_1) := (blk_cell BK171.out 1).trans rfl; have hcz9_2 : w8.cell? ⟨gb171, 2, none⟩ = some (.int .i64 a1_2) := (blk_cell BK171.out 2).trans rfl; have hcz9_3 : w8.cell? ⟨gb171, 3, none⟩ = some (.int .i64 a1_3) := (blk_cell BK171.out 3).trans rfl; have hcz9_4 : w8.cell? ⟨gb171, 4, none⟩ = some (.int .i64 a1_4) := (blk_cell BK171.out 4).trans rfl; have hcz9_5 : w8.cell? ⟨gb171, 5, none⟩ = some (.int .i64 a1_5) := (blk_cell BK171.out 5).trans rfl; have hfz9_0 := blk_frozen BK171.out 0; have hfz9_1 := blk_frozen BK171.out 1; have hfz9_2 := blk_frozen BK171.out 2; have hfz9_3 := blk_frozen BK171.out 3; have hfz9_4 := blk_frozen BK171.out 4; have hfz9_5 := blk_frozen BK171.out 5))
    go_ret
    exact ⟨by first | rfl | (simp [errW_none, errW_some] <;> rfl) | (simp [*, errW_none, errW_some] <;> rfl), by repeat (first | (with_reducible first | exact HB.out | apply below_alloc | apply pw_below_drewN | apply below_drew1 | refine below_set ?_ GE171.out) | exact HB.out)⟩

/-! ### impl_newest: function 83, and the lookup (a text of the session's own) -/
section
open Go.Maps
/-- How a Found in the map reads: its six numbers. -/
def encD (x : S57) : DataW Unit := .agg [.lit (.int .i64 x.f0), .lit (.int .i64 x.f1.f0), .lit (.int .i64 x.f1.f1), .lit (.int .i64 x.f1.f2), .lit (.int .i64 x.f1.f3), .lit (.int .i64 x.f1.f4)]
theorem encD_inj {x y : S57} (h : encD x = encD y) : x = y := by
  obtain ⟨x0, ⟨x1, x2, x3, x4, x5⟩⟩ := x
  obtain ⟨y0, ⟨y1, y2, y3, y4, y5⟩⟩ := y
  simp [encD] at h
  obtain ⟨rfl, rfl, rfl, rfl, rfl, rfl⟩ := h
  rfl
def encV (x : S57) : Value := .agg #[.int .i64 x.f0, .int .i64 x.f1.f0, .int .i64 x.f1.f1, .int .i64 x.f1.f2, .int .i64 x.f1.f3, .int .i64 x.f1.f4]
theorem encV_inj {x y : S57} (h : encV x = encV y) : x = y := by
  obtain ⟨x0, ⟨x1, x2, x3, x4, x5⟩⟩ := x
  obtain ⟨y0, ⟨y1, y2, y3, y4, y5⟩⟩ := y
  simp [encV] at h
  obtain ⟨rfl, rfl, rfl, rfl, rfl, rfl⟩ := h
  rfl
open Classical in
noncomputable def RF (v : Value) : Option (DataW Unit × List MemPlace) := if h : ∃ x : S57, v = encV x then some (encD h.choose, []) else none
theorem RF_mk (x : S57) : RF (.agg #[.int .i64 x.f0, .int .i64 x.f1.f0, .int .i64 x.f1.f1, .int .i64 x.f1.f2, .int .i64 x.f1.f3, .int .i64 x.f1.f4]) = some (encD x, []) := by
  have h : ∃ y : S57, encV x = encV y := ⟨x, rfl⟩
  have e : RF (encV x) = some (encD h.choose, []) := dif_pos h
  have := encV_inj h.choose_spec
  rw [← this] at e
  exact e
theorem RF_inv {v : Value} {x : S57} {ps : List MemPlace} (h : RF v = some (encD x, ps)) : v = .agg #[.int .i64 x.f0, .int .i64 x.f1.f0, .int .i64 x.f1.f1, .int .i64 x.f1.f2, .int .i64 x.f1.f3, .int .i64 x.f1.f4] := by
  unfold RF at h
  by_cases c : ∃ y : S57, v = encV y
  · rw [dif_pos c] at h
    injection h with h
    injection h with h _
    rw [← encD_inj h]
    exact c.choose_spec
  · rw [dif_neg c] at h
    exact absurd h (by simp)
theorem law2 : Keyed Try.prog 2 := int_keyed Try.underlying2
theorem zero57 (w : World) : (zeroValue 57).run Try.prog w = .ok (.agg #[.int .i64 z57.f0, .int .i64 z57.f1.f0, .int .i64 z57.f1.f1, .int .i64 z57.f1.f2, .int .i64 z57.f1.f3, .int .i64 z57.f1.f4]) w := by kernel_rfl
/-- Is the Found committed? -/
def comm (l : List S57) (x : S57) : Bool := (impl_committed.f l x.f0 x.f1.f0 x.f1.f1 x.f1.f2 x.f1.f3 x.f1.f4).getD false
def takes (l : List S57) (o : Option S57) (x : S57) : Bool := decide (0 < x.f1.f2) && (comm l x && (!o.isSome || decide ((o.getD z57).f1.f2 < x.f1.f2)))
/-- The best for one key among the first n. -/
def bestN (l : List S57) (key : Int) : Nat → Option S57
  | 0 => none
  | n + 1 => if (rd_T57 l (n : Int)).f1.f1 = key ∧ takes l (bestN l key n) (rd_T57 l (n : Int)) = true then some (rd_T57 l (n : Int)) else bestN l key n
/-- The map tells of each key the best among the first n. -/
structure Tells (l : List S57) (n : Nat) (D : DataW Unit) : Prop where
  map : IsMap D
  at_ : ∀ key : Int, D.atKey (.int .i64 key) (encD z57) = encD ((bestN l key n).getD z57)
  has_ : ∀ key : Int, Maps.has D (.int .i64 key) = (bestN l key n).isSome
theorem Tells.start (l : List S57) : Tells l 0 (.map []) := ⟨⟨[], rfl⟩, fun _ => rfl, fun _ => rfl⟩
theorem Tells.skip {l : List S57} {n : Nat} {D : DataW Unit} (h : Tells l n D) (hx : takes l (bestN l (rd_T57 l (n : Int)).f1.f1 n) (rd_T57 l (n : Int)) = false) : Tells l (n + 1) D := by
  have e : ∀ key, bestN l key (n + 1) = bestN l key n := fun key => by
    rw [bestN, if_neg]
    rintro ⟨rfl, h2⟩
    rw [hx] at h2
    exact absurd h2 (by simp)
  exact ⟨h.map, fun key => by rw [e, h.at_], fun key => by rw [e, h.has_]⟩
theorem Tells.put {l : List S57} {n : Nat} {D : DataW Unit} (h : Tells l n D) (hw : (Lit.int .i64 (rd_T57 l (n : Int)).f1.f1).wf = true) (hx : takes l (bestN l (rd_T57 l (n : Int)).f1.f1 n) (rd_T57 l (n : Int)) = true) : Tells l (n + 1) (D.put (.int .i64 (rd_T57 l (n : Int)).f1.f1) (encD (rd_T57 l (n : Int)))) := by
  have hk := law2.key (keyOf_int_mk Try.underlying2 hw)
  have hm : IsMap (D.put (.int .i64 (rd_T57 l (n : Int)).f1.f1) (encD (rd_T57 l (n : Int)))) := by
    obtain ⟨es, rfl⟩ := h.map
    exact ⟨_, rfl⟩
  refine ⟨hm, fun key => ?_, fun key => ?_⟩
  · by_cases e : (rd_T57 l (n : Int)).f1.f1 = key
    · subst e
      rw [bestN, if_pos ⟨rfl, hx⟩, atKey_put_same h.map hk]
      rfl
    · rw [bestN, if_neg (fun h => e h.1), atKey_put_other (fun h => e (by injection h with _ h2; exact h2.symm)), h.at_]
  · by_cases e : (rd_T57 l (n : Int)).f1.f1 = key
    · subst e
      rw [bestN, if_pos ⟨rfl, hx⟩, has_put_same h.map hk]
      rfl
    · rw [bestN, if_neg (fun h => e h.1), has_put_other (fun h => e (by injection h with _ h2; exact h2.symm)), h.has_]
theorem own_move {w w' : World} {P : Program} {b n : Nat} {D : DataW Unit} (h : w.ownsMap P 2 RF b n D) (e : w'.heap[b]? = w.heap[b]?) : w'.ownsMap P 2 RF b n D := by
  obtain ⟨es, clock, h1, h2⟩ := h
  exact ⟨es, clock, e.trans h1, h2⟩
theorem own_there {w : World} {P : Program} {b n : Nat} {D : DataW Unit} (h : w.ownsMap P 2 RF b n D) : b < w.heap.size := by
  obtain ⟨es, clock, h1, h2⟩ := h
  exact (Array.getElem?_eq_some_iff.1 h1).1
/-- x, ok := out[key], the answer written out. -/
theorem look_best {ops : Array Oper} {rest : List Oper} {o : Oper} {a : Act} {Q : Exit → Act → World → Prop} (w : World) (hg : o.guard = none) (m x : Operand) (hop : o.op = Op.lookup 103 m x true) (l : List S57) (n b : Nat) (D : DataW Unit)
    (hm : a.eval m = .map (some b)) (k : Nat) (hown : w.ownsMap Try.prog 2 RF b k D) (ht : Tells l n D) (key : Int) (hx : a.eval x = .int .i64 key) (hw : (Lit.int .i64 key).wf = true) (y : S57) (ok : Bool) (hy : (bestN l key n).getD z57 = y) (hok : (bestN l key n).isSome = ok)
    (hK : wpList Try.prog ops Q rest (a.put o.dst (.tuple #[.agg #[.int .i64 y.f0, .int .i64 y.f1.f0, .int .i64 y.f1.f1, .int .i64 y.f1.f2, .int .i64 y.f1.f3, .int .i64 y.f1.f4], .bool ok])) w) :
    wpList Try.prog ops Q (o :: rest) a w :=
  wpList_lookup_own_ok w hg m x 103 hop 2 57 law2 Try.underlying103 RF (zero57 w) (encD z57) [] (RF_mk z57) b k D hm hown _ _ hx (keyOf_int_mk Try.underlying2 hw) (fun v ps hv => by
    rw [ht.at_, hy] at hv
    obtain rfl := RF_inv hv
    rw [ht.has_, hok]
    exact hK)
/-- Six cells of a box written. -/
def st6 (w : World) (g : Nat) (x : S57) : World := (((((w.setCell ⟨g, 0, none⟩ (.int .i64 x.f0)).setCell ⟨g, 1, none⟩ (.int .i64 x.f1.f0)).setCell ⟨g, 2, none⟩ (.int .i64 x.f1.f1)).setCell ⟨g, 3, none⟩ (.int .i64 x.f1.f2)).setCell ⟨g, 4, none⟩ (.int .i64 x.f1.f3)).setCell ⟨g, 5, none⟩ (.int .i64 x.f1.f4)
theorem st6_other (w : World) (g k : Nat) (x : S57) (h : k ≠ g) : (st6 w g x).heap[k]? = w.heap[k]? := by
  unfold st6
  rw [Below.heap_setCell _ ⟨g, 5, none⟩ _ k h, Below.heap_setCell _ ⟨g, 4, none⟩ _ k h, Below.heap_setCell _ ⟨g, 3, none⟩ _ k h, Below.heap_setCell _ ⟨g, 2, none⟩ _ k h, Below.heap_setCell _ ⟨g, 1, none⟩ _ k h, Below.heap_setCell _ ⟨g, 0, none⟩ _ k h]
theorem st6_same {w : World} {g : Nat} {x : S57} {a b c d e f : Value} (h : w.heap[g]? = some (.cells #[a, b, c, d, e, f] 57 (0, 0))) : (st6 w g x).heap[g]? = some (.cells #[.int .i64 x.f0, .int .i64 x.f1.f0, .int .i64 x.f1.f1, .int .i64 x.f1.f2, .int .i64 x.f1.f3, .int .i64 x.f1.f4] 57 (0, 0)) := by
  unfold st6
  have h1 := heap_setCell_same w g 0 _ 57 (.int .i64 x.f0) h
  have h2 := heap_setCell_same _ g 1 _ 57 (.int .i64 x.f1.f0) h1
  have h3 := heap_setCell_same _ g 2 _ 57 (.int .i64 x.f1.f1) h2
  have h4 := heap_setCell_same _ g 3 _ 57 (.int .i64 x.f1.f2) h3
  have h5 := heap_setCell_same _ g 4 _ 57 (.int .i64 x.f1.f3) h4
  have h6 := heap_setCell_same _ g 5 _ 57 (.int .i64 x.f1.f4) h5
  exact h6
theorem st6_size (w : World) (g : Nat) (x : S57) : (st6 w g x).heap.size = w.heap.size := by simp [st6, World.setCell]
theorem st6_below {B : Nat} {a w : World} {g : Nat} {x : S57} (h : Below B a w) (hg : B ≤ g) : Below B a (st6 w g x) := by
  unfold st6
  exact (((((h.setCell hg _).setCell hg _).setCell hg _).setCell hg _).setCell hg _).setCell hg _
set_option maxHeartbeats 8000000 in
set_option maxRecDepth 100000 in
theorem newest_any (A0 : Option Addr) (c0 : Nat) (l0 : List S57) (w : World) (hr0 : Kd.C k57 w A0 l0.length l0) (hc0 : l0.length ≤ c0) (hwf : ∀ x ∈ l0, (Lit.int .i64 x.f1.f1).wf = true) (hcm : ∀ x ∈ l0, ∃ b, impl_committed.f l0 x.f0 x.f1.f0 x.f1.f1 x.f1.f2 x.f1.f3 x.f1.f4 = some b) (hl : l0.length ≤ 2000000) :
    Calls Try.prog 83 #[.slice A0 l0.length c0, .int .i64 0] w fun e w' => ∃ D, e = .returned (.map (some w.heap.size)) ∧ w'.ownsMap Try.prog 2 RF w.heap.size l0.length D ∧ Tells l0 l0.length D ∧ Below w.heap.size w w' := by
  have hmm := @run_makeMap Try.prog
  have hu57 := Try.underlying57
  have hu55 := Try.underlying55
  have HR0 := Aside0.mk hr0
  have HC0 := Aside0.mk hc0
  have HWF := Aside0.mk hwf
  have HCM := Aside0.mk hcm
  have HL := Aside0.mk hl
  clear hr0 hc0 hwf hcm hl
  go_enter Try.func83, Try.ntmps83
  go_wp2
  go_loopg [7, 8, 9, 13] l0.length (fun gg _ _ _ v13 w' => ∃ (i : Nat) (D : DataW Unit), v13 = .int .i64 (i : Int) ∧ Aside0 (i ≤ l0.length) ∧ Aside0 (l0.length - i ≤ gg) ∧ Aside0 (w'.ownsMap Try.prog 2 RF w.heap.size i D) ∧ Aside0 (Tells l0 i D) ∧ Aside0 (Below w.heap.size w w'))
  case atStart => exact ⟨0, .map [], rfl, ⟨Nat.zero_le _⟩, ⟨by omega⟩, ⟨World.ownsMap_made _ _ _ _⟩, ⟨Tells.start l0⟩, ⟨(Below.refl _ _).alloc (Nat.le_refl _) _⟩⟩
  case round =>
    obtain ⟨i, D, rfl, HI, HG, HM, HT, HB⟩ := hrel
    by_cases c : i < l0.length
    · have c1 : decide ((i : Int) < (l0.length : Int)) = true := decide_eq_true (by omega)
      have c2 : decide (i < l0.length) = true := decide_eq_true c
      have c3 : (i < l0.length) = True := eq_true c
      obtain ⟨ad, e, h0, h1, h2, h3, h4, h5⟩ := at_T57 (Kd.C_below HR0.out HB.out) (i : Int) (by omega) (by omega)
      cases e
      simp only [Int.toNat_natCast] at h0 h1 h2 h3 h4 h5
      have hmem : rd_T57 l0 (i : Int) ∈ l0 := by
        show l0.getD ((i : Int)).toNat z57 ∈ l0
        rw [Int.toNat_natCast]
        simp [List.getD_eq_getElem?_getD, c]
      obtain ⟨cb, hcb⟩ := HCM.out _ hmem
      have hw := HWF.out _ hmem
      have hskip := HT.out.skip (l := l0) (n := i)
      have hput := HT.out.put hw
      obtain ⟨y, hy⟩ : ∃ y, (bestN l0 (rd_T57 l0 (i : Int)).f1.f1 i).getD z57 = y := ⟨_, rfl⟩
      obtain ⟨ok, hok⟩ : ∃ ok, (bestN l0 (rd_T57 l0 (i : Int)).f1.f1 i).isSome = ok := ⟨_, rfl⟩
      have htk : takes l0 (bestN l0 (rd_T57 l0 (i : Int)).f1.f1 i) (rd_T57 l0 (i : Int)) = (decide (0 < (rd_T57 l0 (i : Int)).f1.f2) && (cb && (!ok || decide (y.f1.f2 < (rd_T57 l0 (i : Int)).f1.f2)))) := by
        unfold takes comm
        rw [hcb, hy, hok]
        rfl
      rw [htk] at hskip hput
      have HSK := Aside0.mk hskip
      have HPU := Aside0.mk hput
      have HY := Aside0.mk hy
      have HOK := Aside0.mk hok
      have HW := Aside0.mk hw
      have HCB := Aside0.mk hcb
      have HC := Aside0.mk c
      clear hskip hput hy hok hw hcb htk hmem c
      generalize rd_T57 l0 (i : Int) = x at *
      go_upto_region 5 with (first | ((with_reducible refine gate_dst (N := 7) rfl ?_); refine box_event ?hg (N := 7) ?hd (cs := #[.int .i64 0, .int .i64 0, .int .i64 0, .int .i64 0, .int .i64 0, .int .i64 0]) (t := 57) ?hr ?_; (case hd => rfl); (case hg => rfl); (case hr => first | (go_simp; done) | (go_simp; rfl)); intro g7 hg w6 hbox hb; have LT7 := Aside0.mk (show w.heap.size ≤ g7 by rw [hg]; exact HB.out.size); have B7 := Aside0.mk (show w.heap.size ≠ g7 by rw [hg]; exact Nat.ne_of_lt (own_there HM.out)); have HM6 := Aside0.mk (own_move HM.out (hb.block _ (own_there HM.out))); have HB6 := Aside0.mk (HB.out.trans (hb.mono HB.out.size)); have BK7 := Aside0.mk hbox; have z0 : w6.cell? ⟨g7, 0, none⟩ = some (.int .i64 0) := (blk_cell BK7.out 0).trans rfl; have z1 : w6.cell? ⟨g7, 1, none⟩ = some (.int .i64 0) := (blk_cell BK7.out 1).trans rfl; have z2 : w6.cell? ⟨g7, 2, none⟩ = some (.int .i64 0) := (blk_cell BK7.out 2).trans rfl; have z3 : w6.cell? ⟨g7, 3, none⟩ = some (.int .i64 0) := (blk_cell BK7.out 3).trans rfl; have z4 : w6.cell? ⟨g7, 4, none⟩ = some (.int .i64 0) := (blk_cell BK7.out 4).trans rfl; have z5 : w6.cell? ⟨g7, 5, none⟩ = some (.int .i64 0) := (blk_cell BK7.out 5).trans rfl; have f0 := blk_frozen BK7.out 0; have f1 := blk_frozen BK7.out 1; have f2 := blk_frozen BK7.out 2; have f3 := blk_frozen BK7.out 3; have f4 := blk_frozen BK7.out 4; have f5 := blk_frozen BK7.out 5; clear hbox hb hg))
      show Code.wp _ _ _ _ (st6 w6 g7 x)
      have BX7 := Aside0.mk (st6_same (x := x) BK7.out)
      have HM7 := Aside0.mk (own_move HM6.out (st6_other w6 g7 w.heap.size x B7.out))
      have HB7 := Aside0.mk (st6_below (x := x) HB6.out LT7.out)
      clear z0 z1 z2 z3 z4 z5 f0 f1 f2 f3 f4 f5 BK7 HM6 HB6 h0 h1 h2 h3 h4 h5
      generalize st6 w6 g7 x = w7 at *
      have x0 : w7.cell? ⟨g7, 0, none⟩ = some (.int .i64 x.f0) := (blk_cell BX7.out 0).trans rfl
      have x1 : w7.cell? ⟨g7, 1, none⟩ = some (.int .i64 x.f1.f0) := (blk_cell BX7.out 1).trans rfl
      have x2 : w7.cell? ⟨g7, 2, none⟩ = some (.int .i64 x.f1.f1) := (blk_cell BX7.out 2).trans rfl
      have x3 : w7.cell? ⟨g7, 3, none⟩ = some (.int .i64 x.f1.f2) := (blk_cell BX7.out 3).trans rfl
      have x4 : w7.cell? ⟨g7, 4, none⟩ = some (.int .i64 x.f1.f3) := (blk_cell BX7.out 4).trans rfl
      have x5 : w7.cell? ⟨g7, 5, none⟩ = some (.int .i64 x.f1.f4) := (blk_cell BX7.out 5).trans rfl
      go_upto_region 6 with (first | (at_lookup; refine look_best _ rfl _ _ rfl l0 i w.heap.size D rfl i HM7.out HT.out x.f1.f1 rfl HW.out y ok HY.out HOK.out ?_) | ((with_reducible refine gate_dst (N := 8) rfl ?_); refine box_event ?hg (N := 8) ?hd (cs := #[.int .i64 0, .int .i64 0, .int .i64 0, .int .i64 0, .int .i64 0, .int .i64 0]) (t := 57) ?hr ?_; (case hd => rfl); (case hg => rfl); (case hr => first | (go_simp; done) | (go_simp; rfl)); intro g8 hg w8 hbox hb; have LT8 := Aside0.mk (show w.heap.size ≤ g8 by rw [hg]; exact HB7.out.size); have N78 := Aside0.mk (show g7 ≠ g8 by rw [hg]; exact Nat.ne_of_lt (blk_lt BX7.out)); have B8 := Aside0.mk (show w.heap.size ≠ g8 by rw [hg]; exact Nat.ne_of_lt (own_there HM7.out)); have HM8 := Aside0.mk (own_move HM7.out (hb.block _ (own_there HM7.out))); have HB8 := Aside0.mk (HB7.out.trans (hb.mono HB7.out.size)); have BY7 := Aside0.mk (blk_below BX7.out hb); have BK8 := Aside0.mk hbox; have z0 : w8.cell? ⟨g8, 0, none⟩ = some (.int .i64 0) := (blk_cell BK8.out 0).trans rfl; have f0 := blk_frozen BK8.out 0; have z1 : w8.cell? ⟨g8, 1, none⟩ = some (.int .i64 0) := (blk_cell BK8.out 1).trans rfl; have f1 := blk_frozen BK8.out 1; have z2 : w8.cell? ⟨g8, 2, none⟩ = some (.int .i64 0) := (blk_cell BK8.out 2).trans rfl; have f2 := blk_frozen BK8.out 2; have z3 : w8.cell? ⟨g8, 3, none⟩ = some (.int .i64 0) := (blk_cell BK8.out 3).trans rfl; have f3 := blk_frozen BK8.out 3; have z4 : w8.cell? ⟨g8, 4, none⟩ = some (.int .i64 0) := (blk_cell BK8.out 4).trans rfl; have f4 := blk_frozen BK8.out 4; have z5 : w8.cell? ⟨g8, 5, none⟩ = some (.int .i64 0) := (blk_cell BK8.out 5).trans rfl; have f5 := blk_frozen BK8.out 5; clear hbox hb hg))
      show Code.wp _ _ _ _ (st6 w8 g8 y)
      have BX8 := Aside0.mk (st6_same (x := y) BK8.out)
      have BZ7 := Aside0.mk ((st6_other w8 g8 g7 y N78.out).trans BY7.out)
      have HM9 := Aside0.mk (own_move HM8.out (st6_other w8 g8 w.heap.size y B8.out))
      have HB9 := Aside0.mk (st6_below (x := y) HB8.out LT8.out)
      clear z0 z1 z2 z3 z4 z5 f0 f1 f2 f3 f4 f5 BK8 HM8 HB8 x0 x1 x2 x3 x4 x5 BY7 BX7 HM7 HB7
      generalize st6 w8 g8 y = w9 at *
      have x0 : w9.cell? ⟨g7, 0, none⟩ = some (.int .i64 x.f0) := (blk_cell BZ7.out 0).trans rfl
      have x1 : w9.cell? ⟨g7, 1, none⟩ = some (.int .i64 x.f1.f0) := (blk_cell BZ7.out 1).trans rfl
      have x2 : w9.cell? ⟨g7, 2, none⟩ = some (.int .i64 x.f1.f1) := (blk_cell BZ7.out 2).trans rfl
      have x3 : w9.cell? ⟨g7, 3, none⟩ = some (.int .i64 x.f1.f2) := (blk_cell BZ7.out 3).trans rfl
      have x4 : w9.cell? ⟨g7, 4, none⟩ = some (.int .i64 x.f1.f3) := (blk_cell BZ7.out 4).trans rfl
      have x5 : w9.cell? ⟨g7, 5, none⟩ = some (.int .i64 x.f1.f4) := (blk_cell BZ7.out 5).trans rfl
      have y0 : w9.cell? ⟨g8, 0, none⟩ = some (.int .i64 y.f0) := (blk_cell BX8.out 0).trans rfl
      have y1 : w9.cell? ⟨g8, 1, none⟩ = some (.int .i64 y.f1.f0) := (blk_cell BX8.out 1).trans rfl
      have y2 : w9.cell? ⟨g8, 2, none⟩ = some (.int .i64 y.f1.f1) := (blk_cell BX8.out 2).trans rfl
      have y3 : w9.cell? ⟨g8, 3, none⟩ = some (.int .i64 y.f1.f2) := (blk_cell BX8.out 3).trans rfl
      have y4 : w9.cell? ⟨g8, 4, none⟩ = some (.int .i64 y.f1.f3) := (blk_cell BX8.out 4).trans rfl
      have y5 : w9.cell? ⟨g8, 5, none⟩ = some (.int .i64 y.f1.f4) := (blk_cell BX8.out 5).trans rfl
      have hwi : wrap64 ((i : Int) + 1) = ((i + 1 : Nat) : Int) := by have := HL.out; have := HC.out; unfold wrap64; omega
      cases hq1 : decide (0 < x.f1.f2) with
      | false =>
        have HQ1 := Aside0.mk hq1
        go_wp2
        go_roundg (l0.length - (i + 1))
        case measure => have := HC.out; have := HG.out; omega
        case rel => exact ⟨i + 1, D, by rw [hwi], ⟨by have := HC.out; omega⟩, ⟨Nat.le_refl _⟩, ⟨HM9.out.mono (Nat.le_succ _)⟩, ⟨HSK.out (by rw [HQ1.out]; simp)⟩, ⟨HB9.out⟩⟩
      | true =>
        have HQ1 := Aside0.mk hq1
        cases cb with
        | false =>
          go_wp2_with (go_at_call 119; refine (impl_committed.calls _ c0 l0 x.f0 x.f1.f0 x.f1.f1 x.f1.f2 x.f1.f3 x.f1.f4 _ _ (Kd.C_below HR0.out HB9.out) HC0.out HCB.out).mono ?_; rintro e w10 ⟨rfl, hb10⟩; have BA7 := Aside0.mk (blk_below BZ7.out hb10); have BA8 := Aside0.mk (blk_below BX8.out hb10); have HM10 := Aside0.mk (own_move HM9.out (hb10.block _ (own_there HM9.out))); have HB10 := Aside0.mk (HB9.out.trans (hb10.mono HB9.out.size)); have x10 : w10.cell? ⟨g7, 0, none⟩ = some (.int .i64 x.f0) := (blk_cell BA7.out 0).trans rfl; have y10 : w10.cell? ⟨g8, 0, none⟩ = some (.int .i64 y.f0) := (blk_cell BA8.out 0).trans rfl; have x11 : w10.cell? ⟨g7, 1, none⟩ = some (.int .i64 x.f1.f0) := (blk_cell BA7.out 1).trans rfl; have y11 : w10.cell? ⟨g8, 1, none⟩ = some (.int .i64 y.f1.f0) := (blk_cell BA8.out 1).trans rfl; have x12 : w10.cell? ⟨g7, 2, none⟩ = some (.int .i64 x.f1.f1) := (blk_cell BA7.out 2).trans rfl; have y12 : w10.cell? ⟨g8, 2, none⟩ = some (.int .i64 y.f1.f1) := (blk_cell BA8.out 2).trans rfl; have x13 : w10.cell? ⟨g7, 3, none⟩ = some (.int .i64 x.f1.f2) := (blk_cell BA7.out 3).trans rfl; have y13 : w10.cell? ⟨g8, 3, none⟩ = some (.int .i64 y.f1.f2) := (blk_cell BA8.out 3).trans rfl; have x14 : w10.cell? ⟨g7, 4, none⟩ = some (.int .i64 x.f1.f3) := (blk_cell BA7.out 4).trans rfl; have y14 : w10.cell? ⟨g8, 4, none⟩ = some (.int .i64 y.f1.f3) := (blk_cell BA8.out 4).trans rfl; have x15 : w10.cell? ⟨g7, 5, none⟩ = some (.int .i64 x.f1.f4) := (blk_cell BA7.out 5).trans rfl; have y15 : w10.cell? ⟨g8, 5, none⟩ = some (.int .i64 y.f1.f4) := (blk_cell BA8.out 5).trans rfl; clear hb10)
          go_roundg (l0.length - (i + 1))
          case measure => have := HC.out; have := HG.out; omega
          case rel => exact ⟨i + 1, D, by rw [hwi], ⟨by have := HC.out; omega⟩, ⟨Nat.le_refl _⟩, ⟨HM10.out.mono (Nat.le_succ _)⟩, ⟨HSK.out (by rw [HQ1.out]; simp)⟩, ⟨HB10.out⟩⟩
        | true =>
          cases ok with
          | false =>
            go_wp2_with (first | (go_at_call 119; refine (impl_committed.calls _ c0 l0 x.f0 x.f1.f0 x.f1.f1 x.f1.f2 x.f1.f3 x.f1.f4 _ _ (Kd.C_below HR0.out HB9.out) HC0.out HCB.out).mono ?_; rintro e w10 ⟨rfl, hb10⟩; have BA7 := Aside0.mk (blk_below BZ7.out hb10); have BA8 := Aside0.mk (blk_below BX8.out hb10); have HM10 := Aside0.mk (own_move HM9.out (hb10.block _ (own_there HM9.out))); have HB10 := Aside0.mk (HB9.out.trans (hb10.mono HB9.out.size)); have x10 : w10.cell? ⟨g7, 0, none⟩ = some (.int .i64 x.f0) := (blk_cell BA7.out 0).trans rfl; have y10 : w10.cell? ⟨g8, 0, none⟩ = some (.int .i64 y.f0) := (blk_cell BA8.out 0).trans rfl; have x11 : w10.cell? ⟨g7, 1, none⟩ = some (.int .i64 x.f1.f0) := (blk_cell BA7.out 1).trans rfl; have y11 : w10.cell? ⟨g8, 1, none⟩ = some (.int .i64 y.f1.f0) := (blk_cell BA8.out 1).trans rfl; have x12 : w10.cell? ⟨g7, 2, none⟩ = some (.int .i64 x.f1.f1) := (blk_cell BA7.out 2).trans rfl; have y12 : w10.cell? ⟨g8, 2, none⟩ = some (.int .i64 y.f1.f1) := (blk_cell BA8.out 2).trans rfl; have x13 : w10.cell? ⟨g7, 3, none⟩ = some (.int .i64 x.f1.f2) := (blk_cell BA7.out 3).trans rfl; have y13 : w10.cell? ⟨g8, 3, none⟩ = some (.int .i64 y.f1.f2) := (blk_cell BA8.out 3).trans rfl; have x14 : w10.cell? ⟨g7, 4, none⟩ = some (.int .i64 x.f1.f3) := (blk_cell BA7.out 4).trans rfl; have y14 : w10.cell? ⟨g8, 4, none⟩ = some (.int .i64 y.f1.f3) := (blk_cell BA8.out 4).trans rfl; have x15 : w10.cell? ⟨g7, 5, none⟩ = some (.int .i64 x.f1.f4) := (blk_cell BA7.out 5).trans rfl; have y15 : w10.cell? ⟨g8, 5, none⟩ = some (.int .i64 y.f1.f4) := (blk_cell BA8.out 5).trans rfl; clear hb10) | (at_mapUpdate; refine wpList_mapUpdate_own _ rfl _ _ _ 103 rfl 2 57 law2 Try.underlying103 RF w.heap.size i D rfl HM10.out (by have := HL.out; have := HC.out; unfold maxLen; omega) (.int .i64 x.f1.f1) (.agg #[.int .i64 x.f0, .int .i64 x.f1.f0, .int .i64 x.f1.f1, .int .i64 x.f1.f2, .int .i64 x.f1.f3, .int .i64 x.f1.f4]) _ rfl rfl (keyOf_int_mk Try.underlying2 HW.out) (encD x) [] (RF_mk x) ?_; intro w11 hown11 hgrow11))
            go_roundg (l0.length - (i + 1))
            case measure => have := HC.out; have := HG.out; omega
            case rel => exact ⟨i + 1, _, by rw [hwi], ⟨by have := HC.out; omega⟩, ⟨Nat.le_refl _⟩, ⟨hown11⟩, ⟨HPU.out (by rw [HQ1.out]; simp)⟩, ⟨HB10.out.grown hgrow11 HB10.out.size (fun j hj => by cases hj; exact Nat.le_refl _)⟩⟩
          | true =>
            cases hq4 : decide (y.f1.f2 < x.f1.f2) with
            | false =>
              have HQ4 := Aside0.mk hq4
              go_wp2_with (go_at_call 119; refine (impl_committed.calls _ c0 l0 x.f0 x.f1.f0 x.f1.f1 x.f1.f2 x.f1.f3 x.f1.f4 _ _ (Kd.C_below HR0.out HB9.out) HC0.out HCB.out).mono ?_; rintro e w10 ⟨rfl, hb10⟩; have BA7 := Aside0.mk (blk_below BZ7.out hb10); have BA8 := Aside0.mk (blk_below BX8.out hb10); have HM10 := Aside0.mk (own_move HM9.out (hb10.block _ (own_there HM9.out))); have HB10 := Aside0.mk (HB9.out.trans (hb10.mono HB9.out.size)); have x10 : w10.cell? ⟨g7, 0, none⟩ = some (.int .i64 x.f0) := (blk_cell BA7.out 0).trans rfl; have y10 : w10.cell? ⟨g8, 0, none⟩ = some (.int .i64 y.f0) := (blk_cell BA8.out 0).trans rfl; have x11 : w10.cell? ⟨g7, 1, none⟩ = some (.int .i64 x.f1.f0) := (blk_cell BA7.out 1).trans rfl; have y11 : w10.cell? ⟨g8, 1, none⟩ = some (.int .i64 y.f1.f0) := (blk_cell BA8.out 1).trans rfl; have x12 : w10.cell? ⟨g7, 2, none⟩ = some (.int .i64 x.f1.f1) := (blk_cell BA7.out 2).trans rfl; have y12 : w10.cell? ⟨g8, 2, none⟩ = some (.int .i64 y.f1.f1) := (blk_cell BA8.out 2).trans rfl; have x13 : w10.cell? ⟨g7, 3, none⟩ = some (.int .i64 x.f1.f2) := (blk_cell BA7.out 3).trans rfl; have y13 : w10.cell? ⟨g8, 3, none⟩ = some (.int .i64 y.f1.f2) := (blk_cell BA8.out 3).trans rfl; have x14 : w10.cell? ⟨g7, 4, none⟩ = some (.int .i64 x.f1.f3) := (blk_cell BA7.out 4).trans rfl; have y14 : w10.cell? ⟨g8, 4, none⟩ = some (.int .i64 y.f1.f3) := (blk_cell BA8.out 4).trans rfl; have x15 : w10.cell? ⟨g7, 5, none⟩ = some (.int .i64 x.f1.f4) := (blk_cell BA7.out 5).trans rfl; have y15 : w10.cell? ⟨g8, 5, none⟩ = some (.int .i64 y.f1.f4) := (blk_cell BA8.out 5).trans rfl; clear hb10)
              go_roundg (l0.length - (i + 1))
              case measure => have := HC.out; have := HG.out; omega
              case rel => exact ⟨i + 1, D, by rw [hwi], ⟨by have := HC.out; omega⟩, ⟨Nat.le_refl _⟩, ⟨HM10.out.mono (Nat.le_succ _)⟩, ⟨HSK.out (by rw [HQ1.out]; rw [HQ4.out]; simp)⟩, ⟨HB10.out⟩⟩
            | true =>
              have HQ4 := Aside0.mk hq4
              go_wp2_with (first | (go_at_call 119; refine (impl_committed.calls _ c0 l0 x.f0 x.f1.f0 x.f1.f1 x.f1.f2 x.f1.f3 x.f1.f4 _ _ (Kd.C_below HR0.out HB9.out) HC0.out HCB.out).mono ?_; rintro e w10 ⟨rfl, hb10⟩; have BA7 := Aside0.mk (blk_below BZ7.out hb10); have BA8 := Aside0.mk (blk_below BX8.out hb10); have HM10 := Aside0.mk (own_move HM9.out (hb10.block _ (own_there HM9.out))); have HB10 := Aside0.mk (HB9.out.trans (hb10.mono HB9.out.size)); have x10 : w10.cell? ⟨g7, 0, none⟩ = some (.int .i64 x.f0) := (blk_cell BA7.out 0).trans rfl; have y10 : w10.cell? ⟨g8, 0, none⟩ = some (.int .i64 y.f0) := (blk_cell BA8.out 0).trans rfl; have x11 : w10.cell? ⟨g7, 1, none⟩ = some (.int .i64 x.f1.f0) := (blk_cell BA7.out 1).trans rfl; have y11 : w10.cell? ⟨g8, 1, none⟩ = some (.int .i64 y.f1.f0) := (blk_cell BA8.out 1).trans rfl; have x12 : w10.cell? ⟨g7, 2, none⟩ = some (.int .i64 x.f1.f1) := (blk_cell BA7.out 2).trans rfl; have y12 : w10.cell? ⟨g8, 2, none⟩ = some (.int .i64 y.f1.f1) := (blk_cell BA8.out 2).trans rfl; have x13 : w10.cell? ⟨g7, 3, none⟩ = some (.int .i64 x.f1.f2) := (blk_cell BA7.out 3).trans rfl; have y13 : w10.cell? ⟨g8, 3, none⟩ = some (.int .i64 y.f1.f2) := (blk_cell BA8.out 3).trans rfl; have x14 : w10.cell? ⟨g7, 4, none⟩ = some (.int .i64 x.f1.f3) := (blk_cell BA7.out 4).trans rfl; have y14 : w10.cell? ⟨g8, 4, none⟩ = some (.int .i64 y.f1.f3) := (blk_cell BA8.out 4).trans rfl; have x15 : w10.cell? ⟨g7, 5, none⟩ = some (.int .i64 x.f1.f4) := (blk_cell BA7.out 5).trans rfl; have y15 : w10.cell? ⟨g8, 5, none⟩ = some (.int .i64 y.f1.f4) := (blk_cell BA8.out 5).trans rfl; clear hb10) | (at_mapUpdate; refine wpList_mapUpdate_own _ rfl _ _ _ 103 rfl 2 57 law2 Try.underlying103 RF w.heap.size i D rfl HM10.out (by have := HL.out; have := HC.out; unfold maxLen; omega) (.int .i64 x.f1.f1) (.agg #[.int .i64 x.f0, .int .i64 x.f1.f0, .int .i64 x.f1.f1, .int .i64 x.f1.f2, .int .i64 x.f1.f3, .int .i64 x.f1.f4]) _ rfl rfl (keyOf_int_mk Try.underlying2 HW.out) (encD x) [] (RF_mk x) ?_; intro w11 hown11 hgrow11))
              go_roundg (l0.length - (i + 1))
              case measure => have := HC.out; have := HG.out; omega
              case rel => exact ⟨i + 1, _, by rw [hwi], ⟨by have := HC.out; omega⟩, ⟨Nat.le_refl _⟩, ⟨hown11⟩, ⟨HPU.out (by rw [HQ1.out]; rw [HQ4.out]; simp)⟩, ⟨HB10.out.grown hgrow11 HB10.out.size (fun j hj => by cases hj; exact Nat.le_refl _)⟩⟩
    · obtain rfl : i = l0.length := by have := HI.out; omega
      have c1 : decide ((l0.length : Int) < (l0.length : Int)) = false := decide_eq_false (by omega)
      have c2 : decide (l0.length < l0.length) = false := decide_eq_false c
      clear c
      go_wp2
      go_ret
      exact ⟨D, rfl, HM.out, HT.out, HB.out⟩
end
def impl_newest.fits (l0 : List S57) (a1 : Int) : Bool := decide (l0.length ≤ 2000000) && ((Lit.int .i64 a1).wf && l0.all (fun x => (Lit.int .i64 x.f1.f1).wf && (impl_committed.f l0 x.f0 x.f1.f0 x.f1.f1 x.f1.f2 x.f1.f3 x.f1.f4).isSome))
def impl_newest.f (l0 : List S57) (a1 : Int) : Option (Int × Int × Int × Int × Int × Int × Bool) := if impl_newest.fits l0 a1 = true then some (((bestN l0 a1 l0.length).getD z57).f0, ((bestN l0 a1 l0.length).getD z57).f1.f0, ((bestN l0 a1 l0.length).getD z57).f1.f1, ((bestN l0 a1 l0.length).getD z57).f1.f2, ((bestN l0 a1 l0.length).getD z57).f1.f3, ((bestN l0 a1 l0.length).getD z57).f1.f4, (bestN l0 a1 l0.length).isSome) else none
theorem impl_newest.told {l0 : List S57} {a1 : Int} {r : Int × Int × Int × Int × Int × Int × Bool} (h : impl_newest.f l0 a1 = some r) : (l0.length ≤ 2000000 ∧ (Lit.int .i64 a1).wf = true ∧ (∀ x ∈ l0, (Lit.int .i64 x.f1.f1).wf = true) ∧ (∀ x ∈ l0, ∃ b, impl_committed.f l0 x.f0 x.f1.f0 x.f1.f1 x.f1.f2 x.f1.f3 x.f1.f4 = some b)) ∧ ∃ y : S57, (bestN l0 a1 l0.length).getD z57 = y ∧ r = (y.f0, y.f1.f0, y.f1.f1, y.f1.f2, y.f1.f3, y.f1.f4, (bestN l0 a1 l0.length).isSome) := by
  unfold impl_newest.f at h
  by_cases c : impl_newest.fits l0 a1 = true
  · rw [if_pos c] at h
    unfold impl_newest.fits at c
    simp only [Bool.and_eq_true, decide_eq_true_eq, List.all_eq_true] at c
    exact ⟨⟨c.1, c.2.1, fun x hx => (c.2.2 x hx).1, fun x hx => Option.isSome_iff_exists.1 (c.2.2 x hx).2⟩, _, rfl, (Option.some.inj h).symm⟩
  · rw [if_neg c] at h
    exact absurd h (by simp)
theorem impl_newest.told2 {l0 : List S57} {a1 t0 t1 t2 t3 t4 t5 : Int} {t6 : Bool} (h : impl_newest.f l0 a1 = some (t0, t1, t2, t3, t4, t5, t6)) : (l0.length ≤ 2000000 ∧ (Lit.int .i64 a1).wf = true ∧ (∀ x ∈ l0, (Lit.int .i64 x.f1.f1).wf = true) ∧ (∀ x ∈ l0, ∃ b, impl_committed.f l0 x.f0 x.f1.f0 x.f1.f1 x.f1.f2 x.f1.f3 x.f1.f4 = some b)) ∧ (bestN l0 a1 l0.length).getD z57 = ⟨t0, ⟨t1, t2, t3, t4, t5⟩⟩ ∧ (bestN l0 a1 l0.length).isSome = t6 := by
  obtain ⟨h1, y, hy, e⟩ := impl_newest.told h
  obtain ⟨y0, ⟨y1, y2, y3, y4, y5⟩⟩ := y
  simp only [Prod.mk.injEq] at e
  obtain ⟨rfl, rfl, rfl, rfl, rfl, rfl, rfl⟩ := e
  exact ⟨h1, hy, rfl⟩
theorem impl_newest.look {ops : Array Oper} {rest : List Oper} {o : Oper} {a : Act} {Q : Exit → Act → World → Prop} (w : World) (hg : o.guard = none) (m x : Operand) (hop : o.op = Op.lookup 103 m x true) (l : List S57) (n b : Nat) (D : DataW Unit)
    (hm : a.eval m = .map (some b)) (k : Nat) (hown : w.ownsMap Try.prog 2 RF b k D) (ht : Tells l n D) (key : Int) (hx : a.eval x = .int .i64 key) (hw : (Lit.int .i64 key).wf = true) (t0 t1 t2 t3 t4 t5 : Int) (ok : Bool) (hy : (bestN l key n).getD z57 = ⟨t0, ⟨t1, t2, t3, t4, t5⟩⟩) (hok : (bestN l key n).isSome = ok)
    (hK : wpList Try.prog ops Q rest (a.put o.dst (.tuple #[.agg #[.int .i64 t0, .int .i64 t1, .int .i64 t2, .int .i64 t3, .int .i64 t4, .int .i64 t5], .bool ok])) w) :
    wpList Try.prog ops Q (o :: rest) a w :=
  look_best w hg m x hop l n b D hm k hown ht key hx hw ⟨t0, ⟨t1, t2, t3, t4, t5⟩⟩ ok hy hok hK

/-! ### impl_NewestOf: function 43 -/
def impl_NewestOf.f (k : Nat) (l0 : List (S57)) (a1 : Int) : Option (Int × Int × Int × Int × Int × Int × Bool) := (impl_ValidFound.f k l0).bind fun t174 => (if t174 = true then ((impl_newest.f l0 a1).bind fun bt175 => (some (bt175.1, bt175.2.1, bt175.2.2.1, bt175.2.2.2.1, bt175.2.2.2.2.1, bt175.2.2.2.2.2.1, bt175.2.2.2.2.2.2))) else (some (0, 0, 0, 0, 0, 0, false)))
theorem impl_NewestOf.mono : ∀ a0 a1 k, LeO (impl_NewestOf.f k a0 a1) (impl_NewestOf.f (k + 1) a0 a1) := by
  intro a0 a1 k
  unfold impl_NewestOf.f
  repeat' first
      | (with_reducible exact impl_ValidFound.mono _ _)
      | (with_reducible exact LeO.refl _)
      | (with_reducible exact LeO.none _)
      | (with_reducible refine LeO.ite ?_ ?_)
      | (with_reducible refine LeO.bind ?_ (fun _ => ?_))
      | exact impl_ValidFound.mono _ _
      | exact LeO.none _
      | refine LeO.ite ?_ ?_
      | refine LeO.bind ?_ (fun _ => ?_)
set_option maxHeartbeats 8000000 in
set_option maxRecDepth 100000 in
theorem impl_NewestOf.calls (k : Nat) (A0 : Option Addr) (c0 : Nat) (l0 : List (S57)) (a1 : Int) (r1 : Int) (r2 : Int) (r3 : Int) (r4 : Int) (r5 : Int) (r6 : Int) (r7 : Bool) (w : World) (hr0 : Kd.C k57 w A0 l0.length l0) (hc0 : l0.length ≤ c0) (h : impl_NewestOf.f k l0 a1 = some (r1, r2, r3, r4, r5, r6, r7)) :
    Calls Try.prog 43 #[.slice A0 l0.length c0, .int .i64 a1] w fun e w' => e = .returned (.tuple #[.agg #[.int .i64 r1, .int .i64 r2, .int .i64 r3, .int .i64 r4, .int .i64 r5, .int .i64 r6], .bool r7]) ∧ Below w.heap.size w w' := by
  have hu57 := Try.underlying57
  have HR0 := Aside0.mk hr0
  have HC0 := Aside0.mk hc0
  clear hr0 hc0
  have HB := Aside0.mk (Below.refl w.heap.size w)
  have H : ((impl_ValidFound.f k l0).bind fun t174 => (if t174 = true then ((impl_newest.f l0 a1).bind fun bt175 => (some (bt175.1, bt175.2.1, bt175.2.2.1, bt175.2.2.2.1, bt175.2.2.2.2.1, bt175.2.2.2.2.2.1, bt175.2.2.2.2.2.2))) else (some (0, 0, 0, 0, 0, 0, false)))) = some (r1, r2, r3, r4, r5, r6, r7) := h
  clear h
  replace H := Option.bind_eq_some_iff.mp H
  obtain ⟨t174, A30, H⟩ := H
  replace H : (if t174 = true then ((impl_newest.f l0 a1).bind fun bt175 => (some (bt175.1, bt175.2.1, bt175.2.2.1, bt175.2.2.2.1, bt175.2.2.2.2.1, bt175.2.2.2.2.2.1, bt175.2.2.2.2.2.2))) else (some (0, 0, 0, 0, 0, 0, false))) = some (r1, r2, r3, r4, r5, r6, r7) := H
  have A3 := Aside0.mk A30
  clear A30
  by_cases c4 : t174 = true
  · subst c4
    have H1 : ((impl_newest.f l0 a1).bind fun bt175 => (some (bt175.1, bt175.2.1, bt175.2.2.1, bt175.2.2.2.1, bt175.2.2.2.2.1, bt175.2.2.2.2.2.1, bt175.2.2.2.2.2.2))) = some (r1, r2, r3, r4, r5, r6, r7) := by rw [if_pos rfl] at H; exact H
    clear H
    have H := H1
    clear H1
    replace H := Option.bind_eq_some_iff.mp H
    obtain ⟨⟨t175, t176, t177, t178, t179, t180, t181⟩, A50, H⟩ := H
    replace H : (some (t175, t176, t177, t178, t179, t180, t181)) = some (r1, r2, r3, r4, r5, r6, r7) := H
    have A5 := Aside0.mk A50
    clear A50
    simp only [Option.some.injEq, Prod.mk.injEq] at H
    obtain ⟨rfl, rfl, rfl, rfl, rfl, rfl, rfl⟩ := H
    go_enter Try.func43, Try.ntmps43
    obtain ⟨⟨hq1, hq2, hq3, hq4⟩, hy9, ho9⟩ := impl_newest.told2 A5.out
    have HQ1 := Aside0.mk hq1
    have HQ2 := Aside0.mk hq2
    have HQ3 := Aside0.mk hq3
    have HQ4 := Aside0.mk hq4
    have HY9 := Aside0.mk hy9
    have HO9 := Aside0.mk ho9
    clear hq1 hq2 hq3 hq4 hy9 ho9
    go_wp2_with (first | ((with_reducible refine gate_dst (N := 4) rfl ?_); refine box_event ?hg (N := 4) ?hd (cs := #[.int .i64 0, .int .i64 0, .int .i64 0, .int .i64 0, .int .i64 0, .int .i64 0]) (t := 57) ?hr ?_; (case hd => rfl); (case hg => rfl); (case hr => first | (go_simp; done) | (go_simp; rfl)); intro gb173 hg w6 hbox hb; have n0_ := Aside0.mk (below_step (by repeat (first | (with_reducible first | exact HB.out | apply below_alloc | apply pw_below_drewN | apply below_drew1) | exact HB.out)) hb); have n1_ := Aside0.mk (hbox); have n2_ := Aside0.mk ((by rw [hg]; exact (below_size (by repeat (first | (with_reducible first | exact HB.out | apply below_alloc | apply pw_below_drewN | apply below_drew1) | exact HB.out))) : w.heap.size ≤ gb173)); have n3_ := Aside0.mk ((by rw [hg]; exact (below_size (by repeat (first | (with_reducible first | exact HB.out | apply below_alloc | apply pw_below_drewN | apply below_drew1) | exact HB.out))) : w.heap.size ≤ gb173)); clear HB; have HB := n0_; have BK173 := n1_; have GW173 := n2_; have GE173 := n3_; clear n0_ n1_ n2_ n3_; clear hb hbox hg) | ((with_reducible refine gate_callee (f := 66) rfl ?_); refine goesL_ (some 9) rfl rfl Try.func66 (by kernel_rfl) rfl #[.slice A0 l0.length c0] rfl (by (try simp only [List.map_toArray, List.map_cons, List.map_nil]); first | done | rfl | (simp only [List.length_drop, List.length_take]; rfl)) ?_; (with_reducible refine (impl_ValidFound.calls k _ _ l0 true _ ?side1 ?side2 A3.out).mono ?_); (case side1 => repeat (first | exact (Kd.C_below HR0.out HB.out) | (with_reducible refine Kd.C_alloc ?_ _) | (with_reducible refine Kd.C_drewN ?_ _) | (with_reducible refine Kd.C_drew ?_))); (case side2 => exact HC0.out); rintro e w7 ⟨rfl, hb⟩; refine ⟨_, rfl, ?_⟩; have n0_ := Aside0.mk (blk_below (g := gb173) (o := .cells #[.int .i64 0, .int .i64 0, .int .i64 0, .int .i64 0, .int .i64 0, .int .i64 0] 57 (0, 0)) (by (with_reducible repeat (first | refine blk_drewN ?_ _ | refine blk_drew ?_ | refine blk_alloc ?_ _)); exact BK173.out) hb); have n1_ := Aside0.mk (below_step (by repeat (first | (with_reducible first | exact HB.out | apply below_alloc | apply pw_below_drewN | apply below_drew1 | refine below_set ?_ GE173.out) | exact HB.out)) hb); clear BK173; clear HB; have BK173 := n0_; have HB := n1_; clear n0_ n1_; (try clear hb); (try clear hb2); (try clear hk); (try clear hi)) | (at_lookup; refine impl_newest.look _ rfl _ _ rfl l0 l0.length _ D9 rfl l0.length hm9 ht9 a1 rfl HQ2.out t175 t176 t177 t178 t179 t180 t181 HY9.out HO9.out ?_) | (go_at_call 83; refine (newest_any _ _ l0 _ (by repeat (first | exact (Kd.C_below HR0.out HB.out) | (with_reducible refine Kd.C_alloc ?_ _) | (with_reducible refine Kd.C_drewN ?_ _) | (with_reducible refine Kd.C_drew ?_))) HC0.out HQ3.out HQ4.out HQ1.out).mono ?_; rintro e w8 ⟨D9, rfl, hm9, ht9, hb⟩; have n0_ := Aside0.mk (blk_below (g := gb173) (o := .cells #[.int .i64 0, .int .i64 0, .int .i64 0, .int .i64 0, .int .i64 0, .int .i64 0] 57 (0, 0)) (by (with_reducible repeat (first | refine blk_drewN ?_ _ | refine blk_drew ?_ | refine blk_alloc ?_ _)); exact BK173.out) hb); have n1_ := Aside0.mk (below_step (by repeat (first | (with_reducible first | exact HB.out | apply below_alloc | apply pw_below_drewN | apply below_drew1 | refine below_set ?_ GE173.out) | exact HB.out)) hb); clear BK173; clear HB; have BK173 := n0_; have HB := n1_; clear n0_ n1_; (try clear hb); (try clear hb2); (try clear hk); (try clear hi)) | ((with_reducible refine gate_dst (N := 6) rfl ?_); refine box_event ?hg (N := 6) ?hd (cs := #[.int .i64 0, .int .i64 0, .int .i64 0, .int .i64 0, .int .i64 0, .int .i64 0]) (t := 57) ?hr ?_; (case hd => rfl); (case hg => rfl); (case hr => first | (go_simp; done) | (go_simp; rfl)); intro gb182 hg w9 hbox hb; have n0_ := Aside0.mk (blk_below (g := gb173) (o := .cells #[.int .i64 0, .int .i64 0, .int .i64 0, .int .i64 0, .int .i64 0, .int .i64 0] 57 (0, 0)) (by (with_reducible repeat (first | refine blk_drewN ?_ _ | refine blk_drew ?_ | refine blk_alloc ?_ _)); exact BK173.out) hb); have n1_ := Aside0.mk (below_step (by repeat (first | (with_reducible first | exact HB.out | apply below_alloc | apply pw_below_drewN | apply below_drew1 | refine below_set ?_ GE173.out) | exact HB.out)) hb); have n2_ := Aside0.mk (hbox); have n3_ := Aside0.mk ((by rw [hg]; exact (below_size (by repeat (first | (with_reducible first | exact HB.out | apply below_alloc | apply pw_below_drewN | apply below_drew1 | refine below_set ?_ GE173.out) | exact HB.out))) : w.heap.size ≤ gb182)); have n4_ := Aside0.mk ((by rw [hg]; exact (below_size (by repeat (first | (with_reducible first | exact HB.out | apply below_alloc | apply pw_below_drewN | apply below_drew1 | refine below_set ?_ GE173.out) | exact HB.out))) : w.heap.size ≤ gb182)); have n5_ := Aside0.mk ((by rw [hg]; exact Nat.ne_of_lt (blk_lt (g := gb173) (o := .cells #[.int .i64 0, .int .i64 0, .int .i64 0, .int .i64 0, .int .i64 0, .int .i64 0] 57 (0, 0)) (by (with_reducible repeat (first | refine blk_drewN ?_ _ | refine blk_drew ?_ | refine blk_alloc ?_ _)); exact BK173.out)) : gb173 ≠ gb182)); have n6_ := Aside0.mk ((by rw [hg]; exact Nat.ne_of_gt (blk_lt (g := gb173) (o := .cells #[.int .i64 0, .int .i64 0, .int .i64 0, .int .i64 0, .int .i64 0, .int .i64 0] 57 (0, 0)) (by (with_reducible repeat (first | refine blk_drewN ?_ _ | refine blk_drew ?_ | refine blk_alloc ?_ _)); exact BK173.out)) : gb182 ≠ gb173)); clear BK173; clear HB; have BK173 := n0_; have HB := n1_; have BK182 := n2_; have GW182 := n3_; have GE182 := n4_; have NB173_182 := n5_; have NB182_173 := n6_; clear n0_ n1_ n2_ n3_ n4_ n5_ n6_; clear hb hbox hg; have hnb10 := NB182_173.out; have hnc10 := NB173_182.out; have hcz11_0 : w9.cell? ⟨gb182, 0, none⟩ = some (.int .i64 0) := (blk_cell BK182.out 0).trans rfl; have hcz11_1 : w9.cell? ⟨gb182, 1, none⟩ = some (.int .i64 0) := (blk_cell BK182.out 1).trans rfl; have hcz11_2 : w9.cell? ⟨gb182, 2, none⟩ = some (.int .i64 0) := (blk_cell BK182.out 2).trans rfl; have hcz11_3 : w9.cell? ⟨gb182, 3, none⟩ = some (.int .i64 0) := (blk_cell BK182.out 3).trans rfl; have hcz11_4 : w9.cell? ⟨gb182, 4, none⟩ = some (.int .i64 0) := (blk_cell BK182.out 4).trans rfl; have hcz11_5 : w9.cell? ⟨gb182, 5, none⟩ = some (.int .i64 0) := (blk_cell BK182.out 5).trans rfl; have hfz11_0 := blk_frozen BK182.out 0; have hfz11_1 := blk_frozen BK182.out 1; have hfz11_2 := blk_frozen BK182.out 2; have hfz11_3 := blk_frozen BK182.out 3; have hfz11_4 := blk_frozen BK182.out 4; have hfz11_5 := blk_frozen BK182.out 5; have hcz12_0 : w9.cell? ⟨gb173, 0, none⟩ = some (.int .i64 0) := (blk_cell BK173.out 0).trans rfl; have hcz12_1 : w9.cell? ⟨gb173, 1, none⟩ = some (.int .i64 0) := (blk_cell BK173.out 1).trans rfl; have hcz12_2 : w9.cell? ⟨gb173, 2, none⟩ = some (.int .i64 0) := (blk_cell BK173.out 2).trans rfl; have hcz12_3 : w9.cell? ⟨gb173, 3, none⟩ = some (.int .i64 0) := (blk_cell BK173.out 3).trans rfl; have hcz12_4 : w9.cell? ⟨gb173, 4, none⟩ = some (.int .i64 0) := (blk_cell BK173.out 4).trans rfl; have hcz12_5 : w9.cell? ⟨gb173, 5, none⟩ = some (.int .i64 0) := (blk_cell BK173.out 5).trans rfl; have hfz12_0 := blk_frozen BK173.out 0; have hfz12_1 := blk_frozen BK173.out 1; have hfz12_2 := blk_frozen BK173.out 2; have hfz12_3 := blk_frozen BK173.out 3; have hfz12_4 := blk_frozen BK173.out 4; have hfz12_5 := blk_frozen BK173.out 5))
    refine bodyPost_ret (results_ct rfl _ _ gb173 57 #[.int .i64 t175, .int .i64 t176, .int .i64 t177, .int .i64 t178, .int .i64 t179, .int .i64 t180] (0, 0) _ rfl (by (with_reducible repeat (first | refine blk_drewN ?_ _ | refine blk_drew ?_ | refine blk_alloc ?_ _)); refine blk_put (cs := #[.int .i64 t175, .int .i64 t176, .int .i64 t177, .int .i64 t178, .int .i64 t179, .int .i64 0]) ?_ 5 _ rfl; (with_reducible repeat (first | refine blk_drewN ?_ _ | refine blk_drew ?_ | refine blk_alloc ?_ _)); refine blk_put (cs := #[.int .i64 t175, .int .i64 t176, .int .i64 t177, .int .i64 t178, .int .i64 0, .int .i64 0]) ?_ 4 _ rfl; (with_reducible repeat (first | refine blk_drewN ?_ _ | refine blk_drew ?_ | refine blk_alloc ?_ _)); refine blk_put (cs := #[.int .i64 t175, .int .i64 t176, .int .i64 t177, .int .i64 0, .int .i64 0, .int .i64 0]) ?_ 3 _ rfl; (with_reducible repeat (first | refine blk_drewN ?_ _ | refine blk_drew ?_ | refine blk_alloc ?_ _)); refine blk_put (cs := #[.int .i64 t175, .int .i64 t176, .int .i64 0, .int .i64 0, .int .i64 0, .int .i64 0]) ?_ 2 _ rfl; (with_reducible repeat (first | refine blk_drewN ?_ _ | refine blk_drew ?_ | refine blk_alloc ?_ _)); refine blk_put (cs := #[.int .i64 t175, .int .i64 0, .int .i64 0, .int .i64 0, .int .i64 0, .int .i64 0]) ?_ 1 _ rfl; (with_reducible repeat (first | refine blk_drewN ?_ _ | refine blk_drew ?_ | refine blk_alloc ?_ _)); refine blk_put (cs := #[.int .i64 0, .int .i64 0, .int .i64 0, .int .i64 0, .int .i64 0, .int .i64 0]) ?_ 0 _ rfl; (with_reducible repeat (first | refine blk_drewN ?_ _ | refine blk_drew ?_ | refine blk_alloc ?_ _)); refine blk_far ?_ NB173_182.out _; (with_reducible repeat (first | refine blk_drewN ?_ _ | refine blk_drew ?_ | refine blk_alloc ?_ _)); refine blk_far ?_ NB173_182.out _; (with_reducible repeat (first | refine blk_drewN ?_ _ | refine blk_drew ?_ | refine blk_alloc ?_ _)); refine blk_far ?_ NB173_182.out _; (with_reducible repeat (first | refine blk_drewN ?_ _ | refine blk_drew ?_ | refine blk_alloc ?_ _)); refine blk_far ?_ NB173_182.out _; (with_reducible repeat (first | refine blk_drewN ?_ _ | refine blk_drew ?_ | refine blk_alloc ?_ _)); refine blk_far ?_ NB173_182.out _; (with_reducible repeat (first | refine blk_drewN ?_ _ | refine blk_drew ?_ | refine blk_alloc ?_ _)); refine blk_far ?_ NB173_182.out _; (with_reducible repeat (first | refine blk_drewN ?_ _ | refine blk_drew ?_ | refine blk_alloc ?_ _)); exact BK173.out) Try.underlying57 rfl (by kernel_rfl)) rfl ?_
    exact ⟨by first | rfl | (simp [errW_none, errW_some] <;> rfl) | (simp [*, errW_none, errW_some] <;> rfl), by repeat (first | (with_reducible first | exact HB.out | apply below_alloc | apply pw_below_drewN | apply below_drew1 | refine below_set ?_ GE173.out | refine below_set ?_ GE182.out) | exact HB.out)⟩
  · replace c4 := Bool.eq_false_iff.mpr c4
    subst c4
    have H1 : (some (0, 0, 0, 0, 0, 0, false)) = some (r1, r2, r3, r4, r5, r6, r7) := by rw [if_neg (show ¬ (false = true) by decide)] at H; exact H
    clear H
    have H := H1
    clear H1
    simp only [Option.some.injEq, Prod.mk.injEq] at H
    obtain ⟨rfl, rfl, rfl, rfl, rfl, rfl, rfl⟩ := H
    go_enter Try.func43, Try.ntmps43
    go_wp2_with (first | ((with_reducible refine gate_dst (N := 4) rfl ?_); refine box_event ?hg (N := 4) ?hd (cs := #[.int .i64 0, .int .i64 0, .int .i64 0, .int .i64 0, .int .i64 0, .int .i64 0]) (t := 57) ?hr ?_; (case hd => rfl); (case hg => rfl); (case hr => first | (go_simp; done) | (go_simp; rfl)); intro gb173 hg w13 hbox hb; have n0_ := Aside0.mk (below_step (by repeat (first | (with_reducible first | exact HB.out | apply below_alloc | apply pw_below_drewN | apply below_drew1) | exact HB.out)) hb); have n1_ := Aside0.mk (hbox); have n2_ := Aside0.mk ((by rw [hg]; exact (below_size (by repeat (first | (with_reducible first | exact HB.out | apply below_alloc | apply pw_below_drewN | apply below_drew1) | exact HB.out))) : w.heap.size ≤ gb173)); have n3_ := Aside0.mk ((by rw [hg]; exact (below_size (by repeat (first | (with_reducible first | exact HB.out | apply below_alloc | apply pw_below_drewN | apply below_drew1) | exact HB.out))) : w.heap.size ≤ gb173)); clear HB; have HB := n0_; have BK173 := n1_; have GW173 := n2_; have GE173 := n3_; clear n0_ n1_ n2_ n3_; clear hb hbox hg) | ((with_reducible refine gate_callee (f := 66) rfl ?_); refine goesL_ (some 9) rfl rfl Try.func66 (by kernel_rfl) rfl #[.slice A0 l0.length c0] rfl (by (try simp only [List.map_toArray, List.map_cons, List.map_nil]); first | done | rfl | (simp only [List.length_drop, List.length_take]; rfl)) ?_; (with_reducible refine (impl_ValidFound.calls k _ _ l0 false _ ?side1 ?side2 A3.out).mono ?_); (case side1 => repeat (first | exact (Kd.C_below HR0.out HB.out) | (with_reducible refine Kd.C_alloc ?_ _) | (with_reducible refine Kd.C_drewN ?_ _) | (with_reducible refine Kd.C_drew ?_))); (case side2 => exact HC0.out); rintro e w14 ⟨rfl, hb⟩; refine ⟨_, rfl, ?_⟩; have n0_ := Aside0.mk (blk_below (g := gb173) (o := .cells #[.int .i64 0, .int .i64 0, .int .i64 0, .int .i64 0, .int .i64 0, .int .i64 0] 57 (0, 0)) (by (with_reducible repeat (first | refine blk_drewN ?_ _ | refine blk_drew ?_ | refine blk_alloc ?_ _)); exact BK173.out) hb); have n1_ := Aside0.mk (below_step (by repeat (first | (with_reducible first | exact HB.out | apply below_alloc | apply pw_below_drewN | apply below_drew1 | refine below_set ?_ GE173.out) | exact HB.out)) hb); clear BK173; clear HB; have BK173 := n0_; have HB := n1_; clear n0_ n1_; (try clear hb); (try clear hb2); (try clear hk); (try clear hi); have hcz15_0 : w14.cell? ⟨gb173, 0, none⟩ = some (.int .i64 0) := (blk_cell BK173.out 0).trans rfl; have hcz15_1 : w14.cell? ⟨gb173, 1, none⟩ = some (.int .i64 0) := (blk_cell BK173.out 1).trans rfl; have hcz15_2 : w14.cell? ⟨gb173, 2, none⟩ = some (.int .i64 0) := (blk_cell BK173.out 2).trans rfl; have hcz15_3 : w14.cell? ⟨gb173, 3, none⟩ = some (.int .i64 0) := (blk_cell BK173.out 3).trans rfl; have hcz15_4 : w14.cell? ⟨gb173, 4, none⟩ = some (.int .i64 0) := (blk_cell BK173.out 4).trans rfl; have hcz15_5 : w14.cell? ⟨gb173, 5, none⟩ = some (.int .i64 0) := (blk_cell BK173.out 5).trans rfl; have hfz15_0 := blk_frozen BK173.out 0; have hfz15_1 := blk_frozen BK173.out 1; have hfz15_2 := blk_frozen BK173.out 2; have hfz15_3 := blk_frozen BK173.out 3; have hfz15_4 := blk_frozen BK173.out 4; have hfz15_5 := blk_frozen BK173.out 5))
    refine bodyPost_ret (results_ct rfl _ _ gb173 57 #[.int .i64 0, .int .i64 0, .int .i64 0, .int .i64 0, .int .i64 0, .int .i64 0] (0, 0) _ rfl (by (with_reducible repeat (first | refine blk_drewN ?_ _ | refine blk_drew ?_ | refine blk_alloc ?_ _)); refine blk_put (cs := #[.int .i64 0, .int .i64 0, .int .i64 0, .int .i64 0, .int .i64 0, .int .i64 0]) ?_ 5 _ rfl; (with_reducible repeat (first | refine blk_drewN ?_ _ | refine blk_drew ?_ | refine blk_alloc ?_ _)); refine blk_put (cs := #[.int .i64 0, .int .i64 0, .int .i64 0, .int .i64 0, .int .i64 0, .int .i64 0]) ?_ 4 _ rfl; (with_reducible repeat (first | refine blk_drewN ?_ _ | refine blk_drew ?_ | refine blk_alloc ?_ _)); refine blk_put (cs := #[.int .i64 0, .int .i64 0, .int .i64 0, .int .i64 0, .int .i64 0, .int .i64 0]) ?_ 3 _ rfl; (with_reducible repeat (first | refine blk_drewN ?_ _ | refine blk_drew ?_ | refine blk_alloc ?_ _)); refine blk_put (cs := #[.int .i64 0, .int .i64 0, .int .i64 0, .int .i64 0, .int .i64 0, .int .i64 0]) ?_ 2 _ rfl; (with_reducible repeat (first | refine blk_drewN ?_ _ | refine blk_drew ?_ | refine blk_alloc ?_ _)); refine blk_put (cs := #[.int .i64 0, .int .i64 0, .int .i64 0, .int .i64 0, .int .i64 0, .int .i64 0]) ?_ 1 _ rfl; (with_reducible repeat (first | refine blk_drewN ?_ _ | refine blk_drew ?_ | refine blk_alloc ?_ _)); refine blk_put (cs := #[.int .i64 0, .int .i64 0, .int .i64 0, .int .i64 0, .int .i64 0, .int .i64 0]) ?_ 0 _ rfl; (with_reducible repeat (first | refine blk_drewN ?_ _ | refine blk_drew ?_ | refine blk_alloc ?_ _)); exact BK173.out) Try.underlying57 rfl (by kernel_rfl)) rfl ?_
    exact ⟨by first | rfl | (simp [errW_none, errW_some] <;> rfl) | (simp [*, errW_none, errW_some] <;> rfl), by repeat (first | (with_reducible first | exact HB.out | apply below_alloc | apply pw_below_drewN | apply below_drew1 | refine below_set ?_ GE173.out) | exact HB.out)⟩

end Go.Proofs.Ytenmffpkdfbhbaa.QFnExactNewestOf
