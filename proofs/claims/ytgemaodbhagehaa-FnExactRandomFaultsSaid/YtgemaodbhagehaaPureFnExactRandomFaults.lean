/- The pure statement of FnExactRandomFaults holds. No condition beyond the row's bounds. -/
import Derived.Test.YtgemaodbhagehaaQFnExactRandomFaultsx3
import Derived.Test.YtgemaodbhagehaaGen
import Derived.Test.YtgemaodbhagehaaHand
namespace Go.Proofs.Ytgemaodbhagehaa.Pure
open Go.RowKit Go.Proofs.Ytgemaodbhagehaa.QFnExactRandomFaults Go.Proofs.YtgemaodbhagehaaW.PrintWords Go.Proofs.YtgemaodbhagehaaW.PrintLast

open Go.Proofs.Ytgemaodbhagehaa.Lem Go.Proofs.Ytgemaodbhagehaa.Gen Go.Proofs.Ytgemaodbhagehaa.Hand
theorem rdF (l : List S40) (i : Nat) (h : i < l.length) : rd_T40 l (i : Int) = l[i] := by simp [rd_T40, List.getD_eq_getElem?_getD, h]
theorem rd_setF (l : List S40) (i : Nat) (h : i < l.length) (a : S40) : rd_T40 (l.set i a) (i : Int) = a := by
  rw [rdF _ _ (by simpa using h)]
  simp
def mkF (j : Nat) : S40 := ⟨1 + 4 * (j : Int), 1 + 4 * (j : Int) + 1, 1 + 4 * (j : Int) + 1 + 1, 1 + 4 * (j : Int) + 1 + 1 + 1⟩
theorem markF_l (l : List S40) (hl : l.length ≤ 1048576) (d : Nat) : ∀ (k i : Nat), i + d = l.length → d < k → laws_markFaultS.l0 k (tabG mkF i ++ l.drop i) (1 + 4 * (i : Int)) (i : Int) = some (1 + 4 * (l.length : Int), tabG mkF l.length) := by
  induction d with
  | zero =>
    intro k i hi hk
    obtain ⟨k, rfl⟩ : ∃ n, k = n + 1 := ⟨k - 1, by omega⟩
    obtain rfl : i = l.length := by omega
    rw [laws_markFaultS.l0, if_neg (by rw [List.length_append, tabG_length]; simp), List.drop_eq_nil_of_le (Nat.le_refl _), List.append_nil]
  | succ d ih =>
    intro k i hi hk
    obtain ⟨k, rfl⟩ : ∃ n, k = n + 1 := ⟨k - 1, by omega⟩
    have t : ((i : Int)).toNat = i := by omega
    have e2 : ((i + 1 : Nat) : Int) = (i : Int) + 1 := by omega
    have hlt : i < l.length := by omega
    have hL : (tabG mkF i ++ l.drop i).length = l.length := by rw [List.length_append, tabG_length, List.length_drop]; omega
    have hset : (tabG mkF i ++ l.drop i).set i (mkF i) = tabG mkF (i + 1) ++ l.drop (i + 1) := by
      rw [List.set_append_right _ _ (by rw [tabG_length]; exact Nat.le_refl _), tabG_length, Nat.sub_self, List.drop_eq_getElem_cons hlt, List.set_cons_zero, tabG_succ, List.append_assoc]
      rfl
    have e := ih k (i + 1) (by omega) (by omega)
    rw [e2, ← hset] at e
    have e4 : 1 + 4 * (i : Int) + 1 + 1 + 1 + 1 = 1 + 4 * ((i : Int) + 1) := by omega
    rw [← e4] at e
    generalize tabG mkF i ++ l.drop i = L at e hL
    have hiL : i < L.length := by omega
    rw [laws_markFaultS.l0, if_pos (by omega), if_pos (by omega), t, w64 (n := 1 + 4 * (i : Int) + 1) (by omega) (by omega), w64 (n := 1 + 4 * (i : Int) + 1 + 1) (by omega) (by omega), w64 (n := 1 + 4 * (i : Int) + 1 + 1 + 1) (by omega) (by omega), w64 (n := 1 + 4 * (i : Int) + 1 + 1 + 1 + 1) (by omega) (by omega), w64 (n := (i : Int) + 1) (by omega) (by omega)]
    simp only [Option.bind_some]
    rw [rd_setF L i hiL, rd_setF _ i (by simpa using hiL), rd_setF _ i (by simpa using hiL), List.set_set, List.set_set, List.set_set]
    exact e
theorem markF_f (l : List S40) (hl : l.length ≤ 1048576) (k : Nat) (hk : l.length < k) : laws_markFaultS.f k l 1 = some (1 + 4 * (l.length : Int), tabG mkF l.length) := by
  have e := markF_l l hl l.length k 0 (by omega) hk
  exact e
theorem heldF_l (n : Nat) (hl : n ≤ 1048576) (d : Nat) : ∀ (k i : Nat), i + d = n → d < k → laws_heldFaultS.l0 k (tabG mkF n) (1 + 4 * (i : Int)) (i : Int) = some (1 + 4 * (n : Int)) := by
  induction d with
  | zero =>
    intro k i hi hk
    obtain ⟨k, rfl⟩ : ∃ q, k = q + 1 := ⟨k - 1, by omega⟩
    obtain rfl : i = n := by omega
    rw [laws_heldFaultS.l0, if_neg (by rw [tabG_length]; omega)]
  | succ d ih =>
    intro k i hi hk
    obtain ⟨k, rfl⟩ : ∃ q, k = q + 1 := ⟨k - 1, by omega⟩
    have e2 : ((i + 1 : Nat) : Int) = (i : Int) + 1 := by omega
    have e := ih k (i + 1) (by omega) (by omega)
    have e4 : 1 + 4 * (i : Int) + 1 + 1 + 1 + 1 = 1 + 4 * ((i : Int) + 1) := by omega
    rw [e2, ← e4] at e
    have er : rd_T40 (tabG mkF n) (i : Int) = mkF i := by
      rw [rdF _ _ (by rw [tabG_length]; omega)]
      simp [tabG]
    rw [laws_heldFaultS.l0, if_pos (by rw [tabG_length]; omega), if_pos (by omega), er, w64 (n := 1 + 4 * (i : Int) + 1) (by omega) (by omega), w64 (n := 1 + 4 * (i : Int) + 1 + 1) (by omega) (by omega), w64 (n := 1 + 4 * (i : Int) + 1 + 1 + 1) (by omega) (by omega), w64 (n := 1 + 4 * (i : Int) + 1 + 1 + 1 + 1) (by omega) (by omega), w64 (n := (i : Int) + 1) (by omega) (by omega), if_pos (show (mkF i).f0 = 1 + 4 * (i : Int) from rfl), if_pos (show (mkF i).f1 = 1 + 4 * (i : Int) + 1 from rfl), if_pos (show (mkF i).f2 = 1 + 4 * (i : Int) + 1 + 1 from rfl), if_pos (show (mkF i).f3 = 1 + 4 * (i : Int) + 1 + 1 + 1 from rfl)]
    exact e
theorem heldF_f (n : Nat) (hl : n ≤ 1048576) (k : Nat) (hk : n < k) : laws_heldFaultS.f k (tabG mkF n) 1 = some (1 + 4 * (n : Int)) := by
  have e := heldF_l n hl n k 0 (by omega) hk
  exact e
theorem eqF_l (F : List S40) (hl : F.length ≤ 1048576) (d : Nat) : ∀ (k i : Nat), i + d = F.length → d < k → laws_eqFaultS.l0 k F F (i : Int) = some true := by
  induction d with
  | zero =>
    intro k i hi hk
    obtain ⟨k, rfl⟩ : ∃ n, k = n + 1 := ⟨k - 1, by omega⟩
    rw [laws_eqFaultS.l0, if_neg (by omega)]
  | succ d ih =>
    intro k i hi hk
    obtain ⟨k, rfl⟩ : ∃ n, k = n + 1 := ⟨k - 1, by omega⟩
    have e2 : ((i + 1 : Nat) : Int) = (i : Int) + 1 := by omega
    have e := ih k (i + 1) (by omega) (by omega)
    rw [e2] at e
    rw [laws_eqFaultS.l0, if_pos (by omega), if_pos (by omega), if_pos (by omega)]
    unfold laws_eqFault.f
    simp only [if_true, Option.bind_some]
    rw [w64 (by omega) (by omega)]
    exact e
theorem eqF_f (F : List S40) (hl : F.length ≤ 1048576) (k : Nat) (hk : F.length < k) : laws_eqFaultS.f k F F = some true := by
  unfold laws_eqFaultS.f
  rw [if_pos rfl]
  exact eqF_l F hl F.length k 0 (by omega) hk
theorem sin (x lo hi : Int) : spec_l00In.f x lo hi = some (inB x lo hi) := win x lo hi
theorem geo_spec (a b c : Int) : spec_ValidGeometry.f a b c = some (geoB a b c) := by
  unfold spec_ValidGeometry.f geoB
  rw [sin]
  simp only [Option.bind_some]
  cases inB a 2 3
  · simp
  · rw [if_pos rfl, sin]
    simp only [Option.bind_some]
    cases inB b 4 12
    · simp
    · rw [if_pos rfl]
      by_cases h : c = 8 <;> simp [h]
theorem nxt (x : Int) (h0 : 0 ≤ x) (h1 : x < 999999937) : Int.tmod (wrap64 ((wrap64 (48271 * x)) + 11)) 999999937 = nx x := by
  rw [w64 (n := 48271 * x) (by omega) (by omega), w64 (by omega) (by omega), Int.tmod_eq_emod_of_nonneg (by omega)]
  rfl
theorem seed_spec (a : Int) : Int.tmod (wrap64 ((Int.tmod a 999999937) + 999999937)) 999999937 = a % 999999937 := by
  obtain ⟨b0, b1⟩ := tmod_bounds a
  have h := seed_mod a
  have e1 := Int.emod_nonneg a (by decide : (999999937 : Int) ≠ 0)
  have e2 := Int.emod_lt_of_pos a (by decide : (0 : Int) < 999999937)
  rw [w64 (by omega) (by omega), Int.tmod_eq_emod_of_nonneg (by omega)]
  generalize Int.tmod a 999999937 = t at *
  by_cases c : t < 0
  · rw [if_pos c] at h
    rw [h]
    exact Int.emod_eq_of_lt e1 e2
  · rw [if_neg c] at h
    rw [h, Int.add_emod_right]
    exact Int.emod_eq_of_lt e1 e2
theorem spec_l (a b c s : Int) (hg : geoB a b c = true) (h0 : 0 ≤ s) (h1 : s < 999999937) (n : Nat) (hn : n ≤ 40) (d : Nat) : ∀ (k i : Nat), i + d = n → d < k → spec_RandomFaults.l0 k (n : Int) (rfN (a * b) c s i) (stN s i) (i : Int) a b c = some (rfN (a * b) c s n, 0) := by
  obtain ⟨g1, g2, g3, g4, g5⟩ := geo_bounds hg
  have m0 : 2 * 4 ≤ a * b := Int.mul_le_mul g1 g3 (by decide) (by omega)
  have m1 : a * b ≤ 3 * 12 := Int.mul_le_mul g2 g4 (by omega) (by decide)
  induction d with
  | zero =>
    intro k i hi hk
    obtain ⟨k, rfl⟩ : ∃ q, k = q + 1 := ⟨k - 1, by omega⟩
    obtain rfl : i = n := by omega
    rw [spec_RandomFaults.l0, if_neg (by omega)]
  | succ d ih =>
    intro k i hi hk
    obtain ⟨k, rfl⟩ : ∃ q, k = q + 1 := ⟨k - 1, by omega⟩
    have e := ih k (i + 1) (by omega) (by omega)
    have e2 : ((i + 1 : Nat) : Int) = (i : Int) + 1 := by omega
    rw [e2, rfN] at e
    obtain ⟨q0, q1⟩ := stN_ok h0 h1 i
    obtain ⟨q20, q21⟩ := nx_ok (stN s i)
    obtain ⟨q30, q31⟩ := nx_ok (nx (stN s i))
    obtain ⟨q40, q41⟩ := nx_ok (nx (nx (stN s i)))
    rw [spec_RandomFaults.l0, if_pos (by omega), w64 (n := a * b) (by omega) (by omega), if_neg (by omega), if_neg (by omega), if_pos (by rw [rfN_length]; omega), nxt (stN s i) q0 q1, nxt _ q20 q21, nxt _ q30 q31, w64 (n := (i : Int) + 1) (by omega) (by omega), Int.tmod_eq_emod_of_nonneg q20, Int.tmod_eq_emod_of_nonneg q30, Int.tmod_eq_emod_of_nonneg q40]
    exact e
theorem rand_spec (a b c x n : Int) (k : Nat) (hk : 50 < k) : spec_RandomFaults.f k a b c x n = impl_RandomFaults.f a b c x n := by
  unfold spec_RandomFaults.f impl_RandomFaults.f
  simp only [Option.bind_some]
  rw [geo_spec, sin]
  simp only [Option.bind_some]
  cases hg : geoB a b c with
  | false => rfl
  | true =>
    rw [if_pos rfl, if_pos rfl]
    cases hi : inB n 0 40 with
    | false => rfl
    | true =>
      rw [if_pos rfl, if_pos rfl, seed_spec]
      have h := inB_true hi
      obtain ⟨m, rfl⟩ : ∃ m : Nat, n = m := ⟨n.toNat, by omega⟩
      have e := spec_l a b c (x % 999999937) hg (Int.emod_nonneg _ (by decide)) (Int.emod_lt_of_pos _ (by decide)) m (by omega) m k 0 (by omega) (by omega)
      exact e
theorem rand_len (a b c x n : Int) : ∃ r e, impl_RandomFaults.f a b c x n = some (r, e) ∧ r.length ≤ 40 := by
  unfold impl_RandomFaults.f
  split
  · split
    · rename_i h
      have h2 := inB_true h
      exact ⟨_, _, rfl, by rw [rfN_length]; omega⟩
    · exact ⟨_, _, rfl, by simp⟩
  · exact ⟨_, _, rfl, by simp⟩
theorem FnExactRandomFaults : laws_FnExactRandomFaults.Pure := by
  intro a b c x n h0 h1 h2 h3 h4
  refine ⟨10000, ?_⟩
  unfold laws_FnExactRandomFaults.f laws_toGeometry.f
  simp only [Option.bind_some]
  rw [rand_spec a b c x n 10000 (by omega)]
  obtain ⟨r, e, hr, hl⟩ := rand_len a b c x n
  rw [hr]
  simp only [Option.bind_some]
  rw [eqF_f r (by omega) 10000 (by omega)]
  simp only [Option.bind_some]
  rw [if_pos trivial, show (10000 : Nat) = 9999 + 1 from rfl, laws_FnExactRandomFaults.j0, if_neg (by simp), markF_f r (by omega) 9999 (by omega)]
  unfold laws_toGeometry.f
  simp only [Option.bind_some]
  rw [heldF_f r.length (by omega) 9999 (by omega)]
  simp only [Option.bind_some]
  rw [if_neg (by omega), if_pos trivial, hr]
  simp only [Option.bind_some]
  rw [eqF_f r (by omega) 9999 (by omega)]
  simp only [Option.bind_some]
  rw [if_pos trivial, show (9999 : Nat) = 9998 + 1 from rfl, laws_FnExactRandomFaults.j1, if_neg (by simp), heldF_f r.length (by omega) 9998 (by omega)]
  simp only [Option.bind_some]
  rw [if_neg (by omega), if_pos trivial]

end Go.Proofs.Ytgemaodbhagehaa.Pure
