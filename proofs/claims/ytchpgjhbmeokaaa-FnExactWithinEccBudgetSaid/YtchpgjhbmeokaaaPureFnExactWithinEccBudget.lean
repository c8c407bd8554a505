/- The pure statement of FnExactWithinEccBudget holds. No condition beyond the row's bounds. -/
import Derived.Test.YtchpgjhbmeokaaaQFnExactWithinEccBudgetx5
import Derived.Test.YtchpgjhbmeokaaaGen
import Derived.Test.YtchpgjhbmeokaaaHand
namespace Go.Proofs.Ytchpgjhbmeokaaa.Pure
open Go.RowKit Go.Proofs.Ytchpgjhbmeokaaa.QFnExactWithinEccBudget Go.Proofs.YtchpgjhbmeokaaaW.PrintWords Go.Proofs.YtchpgjhbmeokaaaW.PrintLast

open Go.Proofs.Ytchpgjhbmeokaaa.Lem Go.Proofs.Ytchpgjhbmeokaaa.Gen Go.Proofs.Ytchpgjhbmeokaaa.Hand
def conv (x : S104) : S101 := ⟨x.f0, x.f1, x.f2, x.f3⟩
theorem to_l (l : List S104) (hl : l.length ≤ 1048576) (d : Nat) : ∀ (k i : Nat), i + d = l.length → d < k →
    laws_toFaultS.l0 k l (fillG z101 (fun j : Nat => conv (rd_T104 l (j : Int))) l.length i) (i : Int) = some (tabG (fun j : Nat => conv (rd_T104 l (j : Int))) l.length) := by
  induction d with
  | zero =>
    intro k i hi hk
    obtain ⟨k, rfl⟩ : ∃ n, k = n + 1 := ⟨k - 1, by omega⟩
    obtain rfl : i = l.length := by omega
    rw [laws_toFaultS.l0, if_neg (by omega), fillG_all]
  | succ d ih =>
    intro k i hi hk
    obtain ⟨k, rfl⟩ : ∃ n, k = n + 1 := ⟨k - 1, by omega⟩
    have t : ((i : Int)).toNat = i := by omega
    have e := ih k (i + 1) (by omega) (by omega)
    rw [← fillG_set z101 (fun j : Nat => conv (rd_T104 l (j : Int))) l.length i (by omega)] at e
    have e2 : ((i + 1 : Nat) : Int) = (i : Int) + 1 := by omega
    rw [e2] at e
    rw [laws_toFaultS.l0, if_pos (by omega), if_pos (by omega)]
    unfold laws_toFault.f
    simp only [Option.bind_some]
    rw [if_pos (by rw [fillG_length _ _ _ _ (by omega)]; omega), w64 (by omega) (by omega), t]
    exact e
theorem to_f (l : List S104) (hl : l.length ≤ 1048576) (k : Nat) (hk : l.length < k) : laws_toFaultS.f k l = some (l.map conv) := by
  unfold laws_toFaultS.f
  have t : ((l.length : Int)).toNat = l.length := by omega
  rw [if_pos (by omega), t, if_pos (by omega), ← fillG_zero z101 (fun j : Nat => conv (rd_T104 l (j : Int)))]
  have e := to_l l hl l.length k 0 (by omega) hk
  have e0 : ((0 : Nat) : Int) = 0 := rfl
  rw [e0] at e
  rw [e]
  congr 1
  exact tabG_map l z104 conv
theorem eqF_l (F : List S101) (hl : F.length ≤ 1048576) (d : Nat) : ∀ (k i : Nat), i + d = F.length → d < k → laws_eqFaultS.l0 k F F (i : Int) = some true := by
  induction d with
  | zero =>
    intro k i hi hk
    obtain ⟨k, rfl⟩ : ∃ n, k = n + 1 := ⟨k - 1, by omega⟩
    rw [laws_eqFaultS.l0, if_neg (by omega)]
  | succ d ih =>
    intro k i hi hk
    obtain ⟨k, rfl⟩ : ∃ n, k = n + 1 := ⟨k - 1, by omega⟩
    have e2 : ((i + 1 : Nat) : Int) = (i : Int) + 1 := by omega
    have e := ih k (i + 1) (by omega) (by omega)
    rw [e2] at e
    rw [laws_eqFaultS.l0, if_pos (by omega), if_pos (by omega), if_pos (by omega)]
    unfold laws_eqFault.f
    simp only [if_true, Option.bind_some]
    rw [w64 (by omega) (by omega)]
    exact e
theorem sin (x lo hi : Int) : spec_l00In.f x lo hi = some (inB x lo hi) := win x lo hi
theorem geo_spec (a b c : Int) : spec_ValidGeometry.f a b c = some (geoB a b c) := by
  unfold spec_ValidGeometry.f geoB
  rw [sin]
  simp only [Option.bind_some]
  cases inB a 2 3
  · simp
  · rw [if_pos rfl, sin]
    simp only [Option.bind_some]
    cases inB b 4 12
    · simp
    · rw [if_pos rfl]
      by_cases h : c = 8 <;> simp [h]
theorem fault_spec (k : Nat) (a b c x0 x1 x2 x3 : Int) : spec_ValidFault.f (k + 1) a b c x0 x1 x2 x3 = some (geoB a b c && faultB a b c x0 x1 x2 x3) := by
  unfold spec_ValidFault.f
  rw [geo_spec]
  simp only [Option.bind_some]
  cases hg : geoB a b c
  · simp
  · obtain ⟨g1, g2, g3, g4, g5⟩ := geo_bounds hg
    have m0 : 0 ≤ a * b := Int.mul_nonneg (by omega) (by omega)
    have m1 : a * b ≤ 3 * 12 := Int.mul_le_mul g2 g4 (by omega) (by decide)
    rw [if_pos rfl, w64 (n := a * b) (by omega) (by omega), w64 (by omega) (by omega), w64 (by omega) (by omega), sin, sin, sin]
    simp only [Option.bind_some, Bool.true_and]
    unfold faultB
    simp only
    by_cases h1 : x0 = 1
    · subst h1
      rw [if_pos rfl, spec_ValidFault.j0, if_pos (by decide), if_pos (Or.inl rfl)]
      cases inB x1 0 (a * b - 1) <;> cases inB x2 0 (c - 1) <;> rfl
    · by_cases h2 : x0 = 2
      · subst h2
        rw [if_neg h1, spec_ValidFault.j0, if_pos (by decide), if_pos (Or.inr rfl)]
        cases inB x1 0 (a * b - 1) <;> cases inB x2 0 (c - 1) <;> rfl
      · have e2 : (x0 == 2) = false := by simpa using h2
        rw [if_neg h1, spec_ValidFault.j0, e2, if_neg (by simp), if_neg (show ¬ (x0 = 1 ∨ x0 = 2) by omega)]
        by_cases h3 : x0 = 3
        · rw [if_pos h3, if_pos h3]
          cases inB x1 0 (a * b - 1) <;> cases inB x3 0 727 <;> simp
        · rw [if_neg h3, if_neg h3]
          by_cases h4 : x0 = 4
          · rw [if_pos h4, if_pos h4]
            by_cases z : x2 = 0 <;> cases inB x1 0 (a * b - 1) <;> simp [z]
          · rw [if_neg h4, if_neg h4]
            by_cases h5 : x0 = 5
            · rw [if_pos h5, if_pos h5]
              by_cases z : x1 = 0
              · rw [if_pos z, sin]
                simp only [Option.bind_some]
                cases inB x2 0 1000000
                · simp
                · rw [if_pos rfl, sin]
                  simp [z]
              · simp [z]
            · rw [if_neg h5, if_neg h5]
def fB (a b c : Int) (x : S101) : Bool := faultB a b c x.f0 x.f1 x.f2 x.f3
theorem rd_at (l : List S101) (i : Nat) (h : i < l.length) : rd_T101 l (i : Int) = l[i] := by simp [rd_T101, List.getD_eq_getElem?_getD, h]
theorem script_l (a b c : Int) (hg : geoB a b c = true) (l : List S101) (hl : l.length ≤ 1000000) (d : Nat) : ∀ (k i : Nat), i + d = l.length → d + 1 < k → spec_l08Script.l0 k l (i : Int) a b c = some ((l.drop i).all (fB a b c)) := by
  induction d with
  | zero =>
    intro k i hi hk
    obtain ⟨k, rfl⟩ : ∃ n, k = n + 1 := ⟨k - 1, by omega⟩
    rw [spec_l08Script.l0, if_neg (by omega), List.drop_eq_nil_of_le (by omega)]
    rfl
  | succ d ih =>
    intro k i hi hk
    obtain ⟨k, rfl⟩ : ∃ n, k = n + 2 := ⟨k - 2, by omega⟩
    have hlt : i < l.length := by omega
    have e := ih (k + 1) (i + 1) (by omega) (by omega)
    have e2 : ((i + 1 : Nat) : Int) = (i : Int) + 1 := by omega
    rw [e2] at e
    rw [show k + 2 = k + 1 + 1 from rfl, spec_l08Script.l0, if_pos (by omega), if_pos (by omega), fault_spec, hg, Bool.true_and, rd_at l i hlt, w64 (by omega) (by omega), e]
    simp only [Option.bind_some]
    rw [List.drop_eq_getElem_cons hlt, List.all_cons]
    have hh : faultB a b c l[i].f0 l[i].f1 l[i].f2 l[i].f3 = fB a b c l[i] := rfl
    rw [hh]
    cases fB a b c l[i] <;> rfl
def scriptB (a b c : Int) (l : List S101) : Bool := geoB a b c && (decide ((l.length : Int) ≤ 40) && l.all (fB a b c))
theorem script_f (a b c : Int) (l : List S101) (k : Nat) (hk : 50 < k) : spec_l08Script.f k a b c l = some (scriptB a b c l) := by
  unfold spec_l08Script.f scriptB
  rw [geo_spec]
  simp only [Option.bind_some]
  obtain ⟨k, rfl⟩ : ∃ n, k = n + 1 := ⟨k - 1, by omega⟩
  cases hg : geoB a b c
  · rw [if_neg (by simp), spec_l08Script.j0, if_pos rfl]
    rfl
  · rw [if_pos rfl, spec_l08Script.j0]
    by_cases c40 : (l.length : Int) > 40
    · rw [if_pos (by simpa using c40), decide_eq_false (by omega)]
      rfl
    · rw [if_neg (by simpa using c40), decide_eq_true (by omega)]
      have e := script_l a b c hg l (by omega) l.length k 0 (by omega) (by omega)
      have e0 : ((0 : Nat) : Int) = 0 := rfl
      rw [e0, List.drop_zero] at e
      rw [e]
      rfl
theorem script_impl (a b c : Int) (l : List S101) : impl_scriptOk.f a b c l = some (scriptB a b c l) := by
  unfold impl_scriptOk.f scriptB
  congr 3
  rw [List.all_eq_not_any_not]
  rfl
theorem word_spec (bit : Int) (h0 : 0 ≤ bit) (h1 : bit ≤ 727) : spec_l08Word.f bit = some (wordB bit) := by
  rw [← (wordB_ok h0 h1).1]
  unfold spec_l08Word.f impl_wordOf.f
  have hd : Int.tdiv bit 8 = bit / 8 := Int.tdiv_eq_ediv_of_nonneg h0
  rw [hd, w64 (n := bit / 8) (by omega) (by omega), w64 (n := bit / 8 - 64) (by omega) (by omega), w64 (n := bit / 8 - 64 - 16) (by omega) (by omega), w64 (n := bit / 8 - 80) (by omega) (by omega)]
  split
  · rfl
  · congr 1
    omega
theorem l1_ecc (l : List S101) (hl : l.length ≤ 40) (hb : ∀ x ∈ l, 0 ≤ x.f3 ∧ x.f3 ≤ 727) (i : Nat) (hi : i < l.length) (d : Nat) : ∀ (j k : Nat), j + d = i → spec_WithinEccBudget.l1 (d + 1 + k) l (i : Int) (j : Int) = if ((l.take i).drop j).any (fun x => key3 x == key3 l[i]) = true then some false else spec_WithinEccBudget.l0 k l (((i + 1 : Nat)) : Int) := by
  induction d with
  | zero =>
    intro j k hj
    have e2 : ((i + 1 : Nat) : Int) = (i : Int) + 1 := by omega
    rw [show 0 + 1 + k = k + 1 by omega, spec_WithinEccBudget.l1, if_neg (by omega), w64 (by omega) (by omega), List.drop_eq_nil_of_le (by simp; omega), e2]
    rfl
  | succ d ih =>
    intro j k hj
    have e := ih (j + 1) k (by omega)
    have e2 : ((j + 1 : Nat) : Int) = (j : Int) + 1 := by omega
    rw [e2] at e
    have hjl : j < l.length := by omega
    have hd : (l.take i).drop j = l[j] :: (l.take i).drop (j + 1) := by
      have hlt : j < (l.take i).length := by simp; omega
      rw [List.drop_eq_getElem_cons hlt, List.getElem_take]
    have wj := word_spec l[j].f3 (hb _ (List.getElem_mem hjl)).1 (hb _ (List.getElem_mem hjl)).2
    have wi := word_spec l[i].f3 (hb _ (List.getElem_mem hi)).1 (hb _ (List.getElem_mem hi)).2
    rw [show d + 1 + 1 + k = (d + 1 + k) + 1 by omega, spec_WithinEccBudget.l1, if_pos (by omega), if_pos (by omega), if_pos (by omega), if_pos (by omega), if_pos (by omega), rd_at l j hjl, rd_at l i hi, wj, wi, w64 (by omega) (by omega), e, hd, List.any_cons]
    simp only [Option.bind_some]
    have hk : (key3 l[j] == key3 l[i]) = (decide (l[j].f1 = l[i].f1) && (decide (l[j].f2 = l[i].f2) && decide (wordB l[j].f3 = wordB l[i].f3))) := by
      unfold key3
      rw [Bool.eq_iff_iff]
      simp
    rw [hk]
    by_cases c1 : l[j].f1 = l[i].f1
    · rw [if_pos c1, decide_eq_true c1]
      by_cases c2 : l[j].f2 = l[i].f2
      · rw [if_pos c2, decide_eq_true c2]
        by_cases c3 : wordB l[j].f3 = wordB l[i].f3
        · rw [if_pos c3, decide_eq_true c3]
          rfl
        · rw [if_neg c3, decide_eq_false c3]
          rfl
      · rw [if_neg c2, decide_eq_false c2]
        rfl
    · rw [if_neg c1, decide_eq_false c1]
      rfl
theorem l0_ecc (l : List S101) (hl : l.length ≤ 40) (hb : ∀ x ∈ l, 0 ≤ x.f3 ∧ x.f3 ≤ 727) (d : Nat) : ∀ (k i : Nat), i + d = l.length → 50 * d + 1 ≤ k → eccN l i = true → spec_WithinEccBudget.l0 k l (i : Int) = some (eccN l l.length) := by
  induction d with
  | zero =>
    intro k i hi hk he
    obtain ⟨k, rfl⟩ : ∃ n, k = n + 1 := ⟨k - 1, by omega⟩
    obtain rfl : i = l.length := by omega
    rw [spec_WithinEccBudget.l0, if_neg (by omega), he]
  | succ d ih =>
    intro k i hi hk he
    have hlt : i < l.length := by omega
    obtain ⟨k, rfl⟩ : ∃ n, k = (i + 1 + n) + 1 := ⟨k - 1 - (i + 1), by omega⟩
    have hs : eccN l (i + 1) = (l[i].f0 == 1 && !(hitN l i (key3 l[i]))) := by rw [eccN, he, Bool.true_and, rd_at l i hlt]
    obtain ⟨d', hd'⟩ : ∃ d', l.length = i + 1 + d' := ⟨l.length - (i + 1), by omega⟩
    rw [spec_WithinEccBudget.l0, if_pos (by omega), if_pos (by omega), rd_at l i hlt]
    by_cases c1 : l[i].f0 = 1
    · have e := l1_ecc l hl hb i hlt i 0 k (by omega)
      have e0 : ((0 : Nat) : Int) = 0 := rfl
      rw [e0, List.drop_zero] at e
      rw [if_pos c1, e]
      have hh : (l.take i).any (fun x => key3 x == key3 l[i]) = hitN l i (key3 l[i]) := rfl
      rw [hh]
      cases hq : hitN l i (key3 l[i]) with
      | true =>
        rw [if_pos rfl]
        rw [hq, c1] at hs
        rw [hd', eccN_false l (i + 1) d' hs]
      | false =>
        rw [if_neg (by simp)]
        rw [hq, c1] at hs
        exact ih k (i + 1) (by omega) (by omega) hs
    · rw [if_neg c1]
      have hz : (l[i].f0 == 1) = false := beq_eq_false_iff_ne.2 c1
      rw [hz, Bool.false_and] at hs
      rw [hd', eccN_false l (i + 1) d' hs]
theorem ecc_spec (a b c : Int) (l : List S101) (k : Nat) (hk : 3000 < k) : spec_WithinEccBudget.f k a b c l = some (scriptB a b c l && eccN l l.length) := by
  unfold spec_WithinEccBudget.f
  rw [script_f a b c l k (by omega)]
  simp only [Option.bind_some]
  cases hs : scriptB a b c l with
  | false => rfl
  | true =>
    rw [if_pos rfl, Bool.true_and]
    unfold scriptB at hs
    simp only [Bool.and_eq_true, decide_eq_true_eq, List.all_eq_true] at hs
    have e := l0_ecc l (by omega) (fun x hx => fault_bit (hs.2.2 x hx)) l.length k 0 (by omega) (by omega) rfl
    exact e
theorem ecc_impl (a b c : Int) (l : List S101) : impl_WithinEccBudget.f a b c l = some (scriptB a b c l && eccN l l.length) := by
  have h := script_impl a b c l
  unfold impl_scriptOk.f at h
  unfold impl_WithinEccBudget.f
  rw [Option.some.inj h]
theorem FnExactWithinEccBudget : laws_FnExactWithinEccBudget.Pure := by
  intro a b c l h0 h1 h2 ⟨hm, hx⟩
  simp only [maxLen] at hm
  refine ⟨10000000, ?_⟩
  unfold laws_FnExactWithinEccBudget.f laws_szFaultS.f laws_toGeometry.f
  rw [w64 (n := 1048576 - (l.length : Int)) (by omega) (by omega)]
  by_cases c1 : 1048576 - (l.length : Int) < 0
  · rw [if_pos c1]
    rfl
  · rw [if_neg c1]
    simp only [Option.bind_some]
    rw [if_neg c1]
    have hF : (l.map conv).length ≤ 1048576 := by simp; omega
    have t1 := to_f l (by omega) 10000000 (by omega)
    have f1 : laws_eqFaultS.f 10000000 (l.map conv) (l.map conv) = some true := by
      unfold laws_eqFaultS.f
      rw [if_pos rfl]
      exact eqF_l (l.map conv) hF (l.map conv).length 10000000 0 (by omega) (by omega)
    rw [t1]
    simp only [Option.bind_some]
    rw [ecc_spec a b c (l.map conv) 10000000 (by omega), ecc_impl]
    simp only [Option.bind_some]
    rw [if_neg (by simp), f1]
    rfl

end Go.Proofs.Ytchpgjhbmeokaaa.Pure
