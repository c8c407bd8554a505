/- The pure statement of FnExactTornPage holds: the page's head and so many bytes 255 as the page lacks. No condition. -/
import Derived.Test.YtenmffpkdfbhbaaQFnExactTornPagex1
namespace Go.Proofs.Ytenmffpkdfbhbaa.Pure
open Go.RowKit Go.Proofs.Ytenmffpkdfbhbaa.QFnExactTornPage Go.Proofs.YtenmffpkdfbhbaaW.PrintWords Go.Proofs.YtenmffpkdfbhbaaW.PrintLast

theorem fill_l (n : Nat) (hn : n ≤ 91) : ∀ (d i : Nat), i + d = n → spec_l05Fill.l0 (d + 1) 255 n (List.replicate i 255) i = some (strOfNums (List.replicate n 255)) := by
  intro d
  induction d with
  | zero =>
    intro i hi
    rw [spec_l05Fill.l0, if_neg (by omega), show i = n by omega]
  | succ d ih =>
    intro i hi
    rw [spec_l05Fill.l0, if_pos (by omega), if_pos (by rw [List.length_replicate]; omega), show wrap64 ((i : Int) + 1) = ((i + 1 : Nat) : Int) by unfold wrap64; omega, ← List.replicate_succ', ih (i + 1) (by omega)]
theorem fill_ok (n : Nat) (hn : n ≤ 91) : spec_l05Fill.f (n + 1) 255 n = some (strOfNums (List.replicate n 255)) := fill_l n hn n 0 (by omega)
theorem cut_ok (m : Nat) (hm : m ≤ 91) : (strOfNums (List.replicate 91 255)).extract m 91 = strOfNums (List.replicate (91 - m) 255) := by
  have g : ∀ n : Nat, m ≤ n → (strOfNums (List.replicate n 255)).extract m n = strOfNums (List.replicate (n - m) 255) := by
    intro n hn
    apply ByteArray.ext
    rw [ByteArray.data_extract]
    unfold strOfNums
    simp
  exact g 91 hm
theorem FnExactTornPage : laws_FnExactTornPage.Pure := by
  intro a0 a1 hs h1
  refine ⟨(91 - a1).toNat + 1, ?_⟩
  unfold laws_FnExactTornPage.f
  split
  · rfl
  have e : spec_TornPage.f ((91 - a1).toNat + 1) a0 a1 = impl_TornPage.f a0 a1 ∧ ∃ r, impl_TornPage.f a0 a1 = some r := by
    unfold spec_TornPage.f impl_TornPage.f
    have e0 : spec_l00In.f a1 0 91 = impl_within.f a1 0 91 := rfl
    rw [e0]
    by_cases c : (a0.size : Int) = 91
    · rw [if_pos c, if_pos c]
      unfold impl_within.f
      by_cases c1 : a1 ≥ 0
      · rw [if_pos c1]
        simp only [Option.bind_some]
        by_cases c2 : a1 ≤ 91
        · have d2 : decide (a1 ≤ 91) = true := decide_eq_true c2
          rw [d2, if_pos rfl, if_pos rfl]
          obtain ⟨m, rfl⟩ : ∃ m : Nat, a1 = m := ⟨a1.toNat, by omega⟩
          have hm : m ≤ 91 := by omega
          have t := fill_ok (91 - m) (by omega)
          have t' : spec_l05Fill.f ((91 - (m : Int)).toNat + 1) 255 (wrap64 (91 - (m : Int))) = some ((strOfNums (List.replicate 91 255)).extract m 91) := by
            rw [show (91 - (m : Int)).toNat = 91 - m by omega, show wrap64 (91 - (m : Int)) = ((91 - m : Nat) : Int) by unfold wrap64; omega, t, cut_ok m hm]
          have e2 : impl_ErasedPage.f = some (strOfNums (List.replicate 91 255)) := by kernel_rfl
          have e3 : (strOfNums (List.replicate 91 255)).size = 91 := by rw [strOfNums_size]; rfl
          have z : (a0.extract 0 ((m : Int)).toNat).size + ((strOfNums (List.replicate 91 255)).extract m 91).size ≤ 9223372036854775807 := by
            rw [ByteArray.size_extract, ByteArray.size_extract, e3]
            omega
          unfold spec_l05Torn.f impl_torn.f
          rw [t', e2]
          simp only [Option.bind_some, e3, Int.toNat_natCast] at z ⊢
          rw [if_pos c1, if_pos (by omega), if_pos z, if_pos c1, if_pos (by omega), if_pos (by omega)]
          exact ⟨rfl, _, rfl⟩
        · have d2 : decide (a1 ≤ 91) = false := decide_eq_false c2
          rw [d2]
          exact ⟨rfl, _, rfl⟩
      · rw [if_neg c1]
        exact ⟨rfl, _, rfl⟩
    · rw [if_neg c, if_neg c]
      exact ⟨rfl, _, rfl⟩
  obtain ⟨e1, r, e2⟩ := e
  rw [e1, e2]
  simp

end Go.Proofs.Ytenmffpkdfbhbaa.Pure
