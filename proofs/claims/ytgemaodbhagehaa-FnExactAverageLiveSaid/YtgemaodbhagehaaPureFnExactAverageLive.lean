/- The pure statement of FnExactAverageLive holds: the program's AverageLive and the reference's answer the same for all lists and numbers. Condition: the row's own bounds. -/
import Derived.Test.YtgemaodbhagehaaQFnExactAverageLivex2
import Derived.Test.YtgemaodbhagehaaGen
namespace Go.Proofs.Ytgemaodbhagehaa.Pure
open Go.RowKit Go.Proofs.Ytgemaodbhagehaa.QFnExactAverageLive Go.Proofs.YtgemaodbhagehaaW.PrintWords Go.Proofs.YtgemaodbhagehaaW.PrintLast

open Go.Proofs.Ytgemaodbhagehaa.Lem Go.Proofs.Ytgemaodbhagehaa.Gen Go.Proofs.Ytgemaodbhagehaa.Hand
theorem inB_true {x lo hi : Int} (h : inB x lo hi = true) : lo ≤ x ∧ x ≤ hi := by simpa [inB] using h
theorem inB_false {x lo hi : Int} (h : ¬ (lo ≤ x ∧ x ≤ hi)) : inB x lo hi = false := by
  cases e : inB x lo hi with
  | false => rfl
  | true => exact absurd (inB_true e) h
theorem sin (x lo hi : Int) : spec_l00In.f x lo hi = some (inB x lo hi) := by
  unfold spec_l00In.f inB
  by_cases h : x ≥ lo
  · rw [if_pos h]
    have h2 : lo ≤ x := h
    simp [h2]
  · rw [if_neg h]
    have h2 : ¬ lo ≤ x := h
    simp [h2]
def cvS (x : S92) : S90 := ⟨x.f0, x.f1, x.f2⟩
theorem laws_toBlockStatS_l (l : List S92) (hl : l.length ≤ 1048576) (d : Nat) : ∀ (k i : Nat), i + d = l.length → d < k →
    laws_toBlockStatS.l0 k l (fillG z90 (fun j : Nat => cvS (rd_T92 l (j : Int))) l.length i) (i : Int) = some (tabG (fun j : Nat => cvS (rd_T92 l (j : Int))) l.length) := by
  induction d with
  | zero =>
    intro k i hi hk
    obtain ⟨k, rfl⟩ : ∃ n, k = n + 1 := ⟨k - 1, by omega⟩
    obtain rfl : i = l.length := by omega
    rw [laws_toBlockStatS.l0, if_neg (by omega), fillG_all]
  | succ d ih =>
    intro k i hi hk
    obtain ⟨k, rfl⟩ : ∃ n, k = n + 1 := ⟨k - 1, by omega⟩
    have t : ((i : Int)).toNat = i := by omega
    rw [laws_toBlockStatS.l0, if_pos (by omega), if_pos (by omega)]
    simp only [laws_toBlockStat.f, Option.bind_some]
    rw [if_pos (by rw [fillG_length _ _ _ _ (by omega)]; omega), w64 (by omega) (by omega)]
    have e := ih k (i + 1) (by omega) (by omega)
    rw [← fillG_set z90 (fun j : Nat => cvS (rd_T92 l (j : Int))) l.length i (by omega)] at e
    have e2 : ((i + 1 : Nat) : Int) = (i : Int) + 1 := by omega
    rw [e2] at e
    rw [t]
    exact e
theorem laws_toBlockStatS_f (l : List S92) (hl : l.length ≤ 1048576) (k : Nat) (hk : l.length < k) : laws_toBlockStatS.f k l = some (l.map cvS) := by
  unfold laws_toBlockStatS.f
  have t : ((l.length : Int)).toNat = l.length := by omega
  rw [if_pos (by omega), t, if_pos (by omega), ← fillG_zero z90 (fun j : Nat => cvS (rd_T92 l (j : Int)))]
  have e := laws_toBlockStatS_l l hl l.length k 0 (by omega) hk
  have e0 : ((0 : Nat) : Int) = 0 := rfl
  rw [e0] at e
  rw [e, show tabG (fun j : Nat => cvS (rd_T92 l (j : Int))) l.length = l.map cvS from tabG_map l z92 cvS]
theorem laws_eqBlockStatS_l (l : List S90) (hl : l.length ≤ 1048576) (d : Nat) : ∀ (k i : Nat), i + d = l.length → d < k → laws_eqBlockStatS.l0 k l l (i : Int) = some true := by
  induction d with
  | zero =>
    intro k i hi hk
    obtain ⟨k, rfl⟩ : ∃ n, k = n + 1 := ⟨k - 1, by omega⟩
    rw [laws_eqBlockStatS.l0, if_neg (by omega)]
  | succ d ih =>
    intro k i hi hk
    obtain ⟨k, rfl⟩ : ∃ n, k = n + 1 := ⟨k - 1, by omega⟩
    rw [laws_eqBlockStatS.l0, if_pos (by omega), if_pos (by omega), if_pos (by omega)]
    simp only [laws_eqBlockStat.f, if_true, bne_self_eq_false, Bool.false_eq_true, if_false, Option.bind_some]
    rw [w64 (by omega) (by omega)]
    exact ih k (i + 1) (by omega) (by omega)
theorem laws_eqBlockStatS_f (l : List S90) (hl : l.length ≤ 1048576) (k : Nat) (hk : l.length < k) : laws_eqBlockStatS.f k l l = some true := by
  unfold laws_eqBlockStatS.f
  rw [if_pos rfl]
  exact laws_eqBlockStatS_l l hl l.length k 0 (by omega) hk
theorem sz_stats (l : List S92) (h : l.length ≤ maxLen) (n : Int) (n0 : 0 ≤ n) (n1 : n ≤ 1048576) : ∃ m, laws_szBlockStatS.f l n = some m ∧ m ≤ n ∧ (0 ≤ m → m = n - l.length) := by
  simp only [maxLen] at h
  unfold laws_szBlockStatS.f
  rw [w64 (by omega) (by omega)]
  by_cases c : n - (l.length : Int) < 0
  · rw [if_pos c]
    exact ⟨-1, rfl, by omega, fun h => by omega⟩
  · rw [if_neg c]
    exact ⟨_, rfl, by omega, fun _ => rfl⟩
theorem ok_loop (pages : Int) (l : List S90) (hl : l.length ≤ 1048576) (d : Nat) : ∀ (k i : Nat), i + d = l.length → d < k → spec_l11Ok.l0 k l pages (i : Int) = some (!((l.drop i).any (badStat pages))) := by
  induction d with
  | zero =>
    intro k i hi hk
    obtain ⟨k, rfl⟩ : ∃ n, k = n + 1 := ⟨k - 1, by omega⟩
    rw [spec_l11Ok.l0, if_neg (by omega), List.drop_eq_nil_of_le (by omega)]
    rfl
  | succ d ih =>
    intro k i hi hk
    obtain ⟨k, rfl⟩ : ∃ n, k = n + 1 := ⟨k - 1, by omega⟩
    have g : rd_T90 l (i : Int) = l[i]'(by omega) := by simp [rd_T90, List.getD_eq_getElem?_getD, show i < l.length by omega]
    rw [spec_l11Ok.l0, if_pos (by omega), if_pos (by omega), g, sin, w64 (by omega) (by omega), List.drop_eq_getElem_cons (show i < l.length by omega)]
    simp only [Option.bind_some, List.any_cons]
    have e2 := ih k (i + 1) (by omega) (by omega)
    unfold badStat at e2 ⊢
    cases inB (l[i]'(by omega)).f0 0 pages
    · simp
    · rw [if_pos rfl, sin]
      simp only [Option.bind_some]
      cases inB (l[i]'(by omega)).f1 0 1000000
      · simp
      · rw [if_pos rfl]
        refine e2.trans ?_
        simp
theorem ok_spec (pages : Int) (l : List S90) (hl : l.length ≤ 1048576) (k : Nat) (hk : l.length < k) : spec_l11Ok.f (k + 1) l pages = impl_ValidStats.f l pages := by
  unfold spec_l11Ok.f impl_ValidStats.f
  rw [sin]
  simp only [Option.bind_some]
  cases inB pages 1 640
  · simp [spec_l11Ok.j0]
  · rw [if_pos rfl, spec_l11Ok.j0]
    by_cases c : (l.length : Int) > 640
    · have c' : ¬ ((l.length : Int) ≤ 640) := by omega
      rw [decide_eq_true c, if_pos rfl, decide_eq_false c']
      rfl
    · have c' : ((l.length : Int) ≤ 640) := by omega
      rw [decide_eq_false c, if_neg (by simp), decide_eq_true c']
      have e := ok_loop pages l hl l.length k 0 (by omega) hk
      refine e.trans ?_
      simp
theorem avg_loop (l : List S90) (hl : l.length ≤ 1048576) (d : Nat) : ∀ (k k' i : Nat) (a b : Int), i + d = l.length → d < k → d < k' →
    ∃ r, spec_AverageLive.l0 k l a b (i : Int) = some r ∧ impl_AverageLive.l0 k' a b l (l.length : Int) (i : Int) = some r := by
  induction d with
  | zero =>
    intro k k' i a b hi hk hk'
    obtain ⟨k, rfl⟩ : ∃ n, k = n + 1 := ⟨k - 1, by omega⟩
    obtain ⟨k', rfl⟩ : ∃ n, k' = n + 1 := ⟨k' - 1, by omega⟩
    rw [spec_AverageLive.l0, impl_AverageLive.l0, if_neg (by omega), if_neg (by omega)]
    exact ⟨_, rfl, rfl⟩
  | succ d ih =>
    intro k k' i a b hi hk hk'
    obtain ⟨k, rfl⟩ : ∃ n, k = n + 1 := ⟨k - 1, by omega⟩
    obtain ⟨k', rfl⟩ : ∃ n, k' = n + 1 := ⟨k' - 1, by omega⟩
    have c0 : (i : Int) < (l.length : Int) := by omega
    have c1 : (0 : Int) ≤ (i : Int) := by omega
    rw [spec_AverageLive.l0, impl_AverageLive.l0, w64 (n := (i : Int) + 1) (by omega) (by omega)]
    simp only [if_pos c0, if_pos c1]
    by_cases u : (rd_T90 l (i : Int)).f2 = true
    · simp only [if_pos u]
      exact ih k k' (i + 1) _ _ (by omega) (by omega) (by omega)
    · simp only [if_neg u]
      exact ih k k' (i + 1) _ _ (by omega) (by omega) (by omega)
theorem FnExactAverageLive : laws_FnExactAverageLive.Pure := by
  intro l pages hl _
  refine ⟨1048601, ?_⟩
  unfold laws_FnExactAverageLive.f
  obtain ⟨m, e1, h1, g1⟩ := sz_stats l hl.1 1048576 (by omega) (by omega)
  rw [e1]
  simp only [Option.bind_some]
  by_cases c : m < 0
  · rw [if_pos c]
  · rw [if_neg c]
    have g2 := g1 (by omega)
    have len : (l.map cvS).length = l.length := by simp
    rw [laws_toBlockStatS_f l (by omega) 1048601 (by omega)]
    simp only [Option.bind_some]
    have ok : spec_l11Ok.f 1048601 (l.map cvS) pages = _ := ok_spec pages (l.map cvS) (by omega) 1048600 (by omega)
    have eq := laws_eqBlockStatS_f (l.map cvS) (by omega) 1048601 (by omega)
    have gs : ∃ r, spec_AverageLive.f 1048601 (l.map cvS) pages = some r ∧ impl_AverageLive.f 1048601 (l.map cvS) pages = some r := by
      unfold spec_AverageLive.f impl_AverageLive.f
      rw [ok]
      unfold impl_ValidStats.f
      simp only [Option.bind_some]
      cases (inB pages 1 640 && (decide (((l.map cvS).length : Int) ≤ 640) && !((l.map cvS).any (badStat pages))))
      · exact ⟨(0, 0), rfl, rfl⟩
      · simp only [if_true]
        exact avg_loop (l.map cvS) (by omega) (l.map cvS).length 1048601 1048601 0 0 0 (by omega) (by omega) (by omega)
    obtain ⟨r, s1, s2⟩ := gs
    rw [s1, s2]
    simp only [Option.bind_some]
    have ej : laws_FnExactAverageLive.j0 (1048600 + 1) l (l.map cvS) false = some true := by
      rw [laws_FnExactAverageLive.j0, if_neg (by simp), laws_toBlockStatS_f l (by omega) 1048600 (by omega)]
      simp only [Option.bind_some]
      rw [laws_eqBlockStatS_f (l.map cvS) (by omega) 1048600 (by omega)]
      rfl
    rw [if_pos trivial, bne_self_eq_false]
    exact ej

end Go.Proofs.Ytgemaodbhagehaa.Pure
