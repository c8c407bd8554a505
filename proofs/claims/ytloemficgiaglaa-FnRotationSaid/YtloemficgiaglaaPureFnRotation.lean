/- The pure statement of FnRotation holds: the units and the parity of a row lie on different dies, and rows less than the number of dies apart have their parities on different dies, for every two byte slices. Condition: the row's own bounds on the slices. -/
import Derived.Test.YtloemficgiaglaaQFnRotationx1
import Derived.OpenShut
namespace Go.Proofs.Ytloemficgiaglaa.Pure
open Go.RowKit Go.Proofs.Ytloemficgiaglaa.QFnRotation Go.Proofs.YtloemficgiaglaaW.PrintWords Go.Proofs.YtloemficgiaglaaW.PrintLast

theorem seven {P : Int → Prop} (d : Int) (h0 : d ≥ 2) (h1 : d ≤ 8) (a : P 2) (b : P 3) (c : P 4) (e : P 5) (f : P 6) (g : P 7) (i : P 8) : P d := by
  have : d = 2 ∨ d = 3 ∨ d = 4 ∨ d = 5 ∨ d = 6 ∨ d = 7 ∨ d = 8 := by omega
  rcases this with rfl | rfl | rfl | rfl | rfl | rfl | rfl <;> assumption
theorem parity (row dies : Int) (c0 : row ≥ 0) (c1 : dies ≥ 2) (c2 : dies ≤ 8) : impl_ParityDie.f row dies = some (dies - 1 - row % dies) := by
  have c3 : ¬ dies = 0 := by omega
  have m0 := Int.emod_nonneg row c3
  have m1 := Int.emod_lt_of_pos row (show 0 < dies by omega)
  have e1 : wrap64 ((wrap64 (dies - 1)) - row % dies) = dies - 1 - row % dies := by
    generalize row % dies = m at *
    unfold wrap64
    omega
  simp [impl_ParityDie.f, impl_parityDie.f, impl_rowOk.f, impl_within.f, c0, c1, c2, c3, Int.tmod_eq_emod_of_nonneg c0, e1]
theorem data (row c dies : Int) (c0 : row ≥ 0) (c1 : dies ≥ 2) (c2 : dies ≤ 8) (k0 : 0 ≤ c) (k1 : c < dies - 1) : impl_DataDie.f row c dies = some ((dies - row % dies + c) % dies) := by
  have c3 : ¬ dies = 0 := by omega
  have m0 := Int.emod_nonneg row c3
  have m1 := Int.emod_lt_of_pos row (show 0 < dies by omega)
  have e0 : c ≤ wrap64 (dies - 2) := by unfold wrap64; omega
  have e1 : wrap64 ((wrap64 ((wrap64 ((wrap64 (dies - 1)) - row % dies)) + 1)) + c) = dies - row % dies + c := by
    generalize row % dies = m at *
    unfold wrap64
    omega
  have e2 : ((dies - row % dies + c)).tmod dies = (dies - row % dies + c) % dies := Int.tmod_eq_emod_of_nonneg (by omega)
  simp [impl_DataDie.f, impl_dataDie.f, impl_parityDie.f, impl_rowOk.f, impl_within.f, c0, c1, c2, c3, k0, e0, Int.tmod_eq_emod_of_nonneg c0, e1, e2]
theorem unit (row die dies : Int) (c0 : row ≥ 0) (c1 : dies ≥ 2) (c2 : dies ≤ 8) (d0 : 0 ≤ die) (d1 : die < dies) : impl_UnitOn.f row die dies = some ((die + row % dies) % dies) := by
  have c3 : ¬ dies = 0 := by omega
  have m0 := Int.emod_nonneg row c3
  have m1 := Int.emod_lt_of_pos row (show 0 < dies by omega)
  have e0 : die ≤ wrap64 (dies - 1) := by unfold wrap64; omega
  have e1 : wrap64 ((wrap64 ((wrap64 (die - wrap64 ((wrap64 (dies - 1)) - row % dies))) - 1)) + (wrap64 (2 * dies))) = die + row % dies + dies := by
    generalize row % dies = m at *
    unfold wrap64
    omega
  have e2 : (die + row % dies + dies).tmod dies = (die + row % dies) % dies := by
    rw [Int.tmod_eq_emod_of_nonneg (by omega)]
    simp
  simp [impl_UnitOn.f, impl_unitOn.f, impl_parityDie.f, impl_rowOk.f, impl_within.f, c0, c1, c2, c3, d0, e0, Int.tmod_eq_emod_of_nonneg c0, e1, e2]
theorem lies (m die dies : Int) (c1 : dies ≥ 2) (c2 : dies ≤ 8) (m0 : 0 ≤ m) (m1 : m < dies) (d0 : 0 ≤ die) (d1 : die < dies) :
    ((die + m) % dies = dies - 1 → dies - 1 - m = die) ∧ ((die + m) % dies < dies - 1 → (dies - m + (die + m) % dies) % dies = die) := by
  revert m1 d1
  refine seven (P := fun dies => m < dies → die < dies → ((die + m) % dies = dies - 1 → dies - 1 - m = die) ∧ ((die + m) % dies < dies - 1 → (dies - m + (die + m) % dies) % dies = die)) dies c1 c2 ?_ ?_ ?_ ?_ ?_ ?_ ?_ <;> intro _ _ <;> omega
theorem apart (row die dies : Int) (c1 : dies ≥ 2) (c2 : dies ≤ 8) (d0 : 0 < die) (d1 : die < dies) : ¬ (dies - 1 - row % dies = dies - 1 - (row + die) % dies) := by
  revert d1
  refine seven (P := fun dies => die < dies → ¬ (dies - 1 - row % dies = dies - 1 - (row + die) % dies)) dies c1 c2 ?_ ?_ ?_ ?_ ?_ ?_ ?_ <;> intro _ <;> omega
theorem at_range (l : List Int) (i n : Int) (i0 : 0 ≤ i) (i1 : i ≤ 1) (n1 : 1 < n) (hl : ∀ x ∈ l, (Lit.int .u8 x).wf = true) : ∃ a, laws_b10At.f l i n = some a ∧ 0 ≤ a ∧ a < n := by
  have n0 : ¬ n = 0 := by omega
  unfold laws_b10At.f
  rw [if_neg (by omega)]
  by_cases c : i < (l.length : Int)
  · have hr := range_u8 hl i.toNat
    have e : rd l i = l[i.toNat]?.getD 0 := by simp [rd]
    rw [if_pos c, if_pos i0, if_neg n0, e]
    have w : wrap64 (l[i.toNat]?.getD 0) = l[i.toNat]?.getD 0 := by unfold wrap64; omega
    rw [w, Int.tmod_eq_emod_of_nonneg hr.1]
    exact ⟨_, rfl, Int.emod_nonneg _ n0, Int.emod_lt_of_pos _ (by omega)⟩
  · rw [if_neg c, if_neg n0]
    have w : wrap64 ((wrap64 (i * 37)) + 11) = i * 37 + 11 := by unfold wrap64; omega
    rw [w, Int.tmod_eq_emod_of_nonneg (by omega)]
    exact ⟨_, rfl, Int.emod_nonneg _ n0, Int.emod_lt_of_pos _ (by omega)⟩
theorem turns (row dies : Int) (c0 : row ≥ 0) (cr : row ≤ 100000) (c1 : dies ≥ 2) (c2 : dies ≤ 8) (d : Nat) :
    ∀ (k : Nat) (die : Int), 0 ≤ die → die ≤ dies → dies - die < d → 4 * d < k → laws_FnRotation.l0 k row dies die = some true := by
  have c3 : ¬ dies = 0 := by omega
  have m0 := Int.emod_nonneg row c3
  have m1 := Int.emod_lt_of_pos row (show 0 < dies by omega)
  have w0 : wrap64 (dies - 1) = dies - 1 := by unfold wrap64; omega
  induction d with
  | zero => intro k die k0 k1 hd hk; omega
  | succ d ih =>
    intro k die k0 k1 hd hk
    obtain ⟨k, rfl⟩ : ∃ n, k = n + 3 := ⟨k - 3, by omega⟩
    simp only [laws_FnRotation.l0]
    by_cases cc : die < dies
    · have u0 := Int.emod_nonneg (die + row % dies) c3
      have u1 := Int.emod_lt_of_pos (die + row % dies) (show 0 < dies by omega)
      have hl := lies (row % dies) die dies c1 c2 m0 m1 k0 cc
      have w1 : wrap64 (die + 1) = die + 1 := by unfold wrap64; omega
      have w2 : wrap64 (row + die) = row + die := by unfold wrap64; omega
      have e2 : laws_FnRotation.j2 (k + 1) row dies die = some true := by
        simp only [laws_FnRotation.j2]
        by_cases cd : die > 0
        · rw [if_pos cd, w2, parity row dies c0 c1 c2, parity (row + die) dies (by omega) c1 c2]
          simp only [Option.bind_some]
          rw [if_neg (apart row die dies c1 c2 cd cc), w1]
          exact ih k (die + 1) (by omega) (by omega) (by omega) (by omega)
        · rw [if_neg cd, w1]
          exact ih k (die + 1) (by omega) (by omega) (by omega) (by omega)
      rw [if_pos cc, unit row die dies c0 c1 c2 k0 cc]
      simp only [Option.bind_some]
      rw [if_neg (by omega), w0]
      have cd : decide ((die + row % dies) % dies > dies - 1) = false := decide_eq_false (by omega)
      rw [cd]
      simp only [laws_FnRotation.j1]
      rw [if_neg (by simp), w0]
      by_cases ce : (die + row % dies) % dies = dies - 1
      · rw [if_pos ce, parity row dies c0 c1 c2]
        simp only [Option.bind_some]
        rw [if_pos (hl.1 ce)]
        exact e2
      · rw [if_neg ce, data row _ dies c0 c1 c2 u0 (by omega)]
        simp only [Option.bind_some]
        rw [if_pos (hl.2 (by omega))]
        exact e2
    · rw [if_neg cc]

theorem FnRotation : laws_FnRotation.Pure := by
  intro l0 l1 h0 h1 h2 h3 h4 h5
  refine ⟨60, ?_⟩
  unfold laws_FnRotation.f
  by_cases c : (l0.length : Int) > 1048576 ∨ (l1.length : Int) > 1048576
  · have e : laws_b10Long.f l0 l1 = some true := by
      unfold laws_b10Long.f
      by_cases cc : (l0.length : Int) > 1048576
      · rw [if_pos cc]
      · rw [if_neg cc]
        simp
        omega
    rw [e]
    simp
  · have e : laws_b10Long.f l0 l1 = some false := by
      unfold laws_b10Long.f
      rw [if_neg (by omega)]
      simp
      omega
    obtain ⟨a, ea, a0, a1⟩ := at_range l0 0 256 (by omega) (by omega) (by omega) h2
    obtain ⟨b, eb, b0, b1⟩ := at_range l0 1 256 (by omega) (by omega) (by omega) h2
    obtain ⟨c, ec, d0, d1⟩ := at_range l1 0 7 (by omega) (by omega) (by omega) h5
    rw [e, ea, eb, ec]
    simp only [Option.bind_some, Bool.false_eq_true, if_false]
    have w1 : wrap64 ((wrap64 (256 * a)) + b) = 256 * a + b := by unfold wrap64; omega
    have w2 : wrap64 (2 + c) = 2 + c := by unfold wrap64; omega
    rw [w1, w2]
    exact turns (256 * a + b) (2 + c) (by omega) (by omega) (by omega) (by omega) 10 60 0 (by omega) (by omega) (by omega) (by omega)

end Go.Proofs.Ytloemficgiaglaa.Pure
