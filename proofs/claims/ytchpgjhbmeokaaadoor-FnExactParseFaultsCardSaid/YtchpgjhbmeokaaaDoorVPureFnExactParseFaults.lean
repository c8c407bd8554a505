/- The pure statement of FnExactParseFaults holds. No condition beyond the row's bounds. -/
import Derived.Test.YtchpgjhbmeokaaaDoorVQFnExactParseFaultsx12
import Derived.Lib.SplitLaws
import Derived.Test.YtchpgjhbmeokaaaDoorVLem
import Derived.Test.YtchpgjhbmeokaaaDoorVGen
import Derived.Test.YtchpgjhbmeokaaaDoorVHand
set_option linter.unusedSimpArgs false
set_option linter.unusedVariables false
namespace Go.Proofs.YtchpgjhbmeokaaaDoor.Pure
open Go.RowKit Go.Proofs.YtchpgjhbmeokaaaDoor.QFnExactParseFaults Go.Proofs.YtchpgjhbmeokaaaDoorW.PrintWords Go.Proofs.YtchpgjhbmeokaaaDoorW.PrintLast
open Go.Proofs.YtchpgjhbmeokaaaDoor.Lem Go.Proofs.YtchpgjhbmeokaaaDoor.Gen Go.Proofs.YtchpgjhbmeokaaaDoor.Hand Go.Proofs.YtchpgjhbmeokaaaDoor
theorem rdF (l : List S40) (i : Nat) (h : i < l.length) : rd_T40 l (i : Int) = l[i] := by simp [rd_T40, List.getD_eq_getElem?_getD, h]
theorem rd_setF (l : List S40) (i : Nat) (h : i < l.length) (a : S40) : rd_T40 (l.set i a) (i : Int) = a := by
  rw [rdF _ _ (by simpa using h)]
  simp
def mkF (j : Nat) : S40 := ⟨1 + 4 * (j : Int), 1 + 4 * (j : Int) + 1, 1 + 4 * (j : Int) + 1 + 1, 1 + 4 * (j : Int) + 1 + 1 + 1⟩
theorem markF_l (l : List S40) (hl : l.length ≤ 1048576) (d : Nat) : ∀ (k i : Nat), i + d = l.length → d < k → laws_markFaultS.l0 k (tabG mkF i ++ l.drop i) (1 + 4 * (i : Int)) (i : Int) = some (1 + 4 * (l.length : Int), tabG mkF l.length) := by
  induction d with
  | zero =>
    intro k i hi hk
    obtain ⟨k, rfl⟩ : ∃ n, k = n + 1 := ⟨k - 1, by omega⟩
    obtain rfl : i = l.length := by omega
    rw [laws_markFaultS.l0, if_neg (by rw [List.length_append, tabG_length]; simp), List.drop_eq_nil_of_le (Nat.le_refl _), List.append_nil]
  | succ d ih =>
    intro k i hi hk
    obtain ⟨k, rfl⟩ : ∃ n, k = n + 1 := ⟨k - 1, by omega⟩
    have t : ((i : Int)).toNat = i := by omega
    have e2 : ((i + 1 : Nat) : Int) = (i : Int) + 1 := by omega
    have hlt : i < l.length := by omega
    have hL : (tabG mkF i ++ l.drop i).length = l.length := by rw [List.length_append, tabG_length, List.length_drop]; omega
    have hset : (tabG mkF i ++ l.drop i).set i (mkF i) = tabG mkF (i + 1) ++ l.drop (i + 1) := by
      rw [List.set_append_right _ _ (by rw [tabG_length]; exact Nat.le_refl _), tabG_length, Nat.sub_self, List.drop_eq_getElem_cons hlt, List.set_cons_zero, tabG_succ, List.append_assoc]
      rfl
    have e := ih k (i + 1) (by omega) (by omega)
    rw [e2, ← hset] at e
    have e4 : 1 + 4 * (i : Int) + 1 + 1 + 1 + 1 = 1 + 4 * ((i : Int) + 1) := by omega
    rw [← e4] at e
    generalize tabG mkF i ++ l.drop i = L at e hL
    have hiL : i < L.length := by omega
    rw [laws_markFaultS.l0, if_pos (by omega), if_pos (by omega), t, w64 (n := 1 + 4 * (i : Int) + 1) (by omega) (by omega), w64 (n := 1 + 4 * (i : Int) + 1 + 1) (by omega) (by omega), w64 (n := 1 + 4 * (i : Int) + 1 + 1 + 1) (by omega) (by omega), w64 (n := 1 + 4 * (i : Int) + 1 + 1 + 1 + 1) (by omega) (by omega), w64 (n := (i : Int) + 1) (by omega) (by omega)]
    simp only [Option.bind_some]
    rw [rd_setF L i hiL, rd_setF _ i (by simpa using hiL), rd_setF _ i (by simpa using hiL), List.set_set, List.set_set, List.set_set]
    exact e
theorem markF_f (l : List S40) (hl : l.length ≤ 1048576) (k : Nat) (hk : l.length < k) : laws_markFaultS.f k l 1 = some (1 + 4 * (l.length : Int), tabG mkF l.length) := by
  have e := markF_l l hl l.length k 0 (by omega) hk
  exact e
theorem heldF_l (n : Nat) (hl : n ≤ 1048576) (d : Nat) : ∀ (k i : Nat), i + d = n → d < k → laws_heldFaultS.l0 k (tabG mkF n) (1 + 4 * (i : Int)) (i : Int) = some (1 + 4 * (n : Int)) := by
  induction d with
  | zero =>
    intro k i hi hk
    obtain ⟨k, rfl⟩ : ∃ q, k = q + 1 := ⟨k - 1, by omega⟩
    obtain rfl : i = n := by omega
    rw [laws_heldFaultS.l0, if_neg (by rw [tabG_length]; omega)]
  | succ d ih =>
    intro k i hi hk
    obtain ⟨k, rfl⟩ : ∃ q, k = q + 1 := ⟨k - 1, by omega⟩
    have e2 : ((i + 1 : Nat) : Int) = (i : Int) + 1 := by omega
    have e := ih k (i + 1) (by omega) (by omega)
    have e4 : 1 + 4 * (i : Int) + 1 + 1 + 1 + 1 = 1 + 4 * ((i : Int) + 1) := by omega
    rw [e2, ← e4] at e
    have er : rd_T40 (tabG mkF n) (i : Int) = mkF i := by
      rw [rdF _ _ (by rw [tabG_length]; omega)]
      simp [tabG]
    rw [laws_heldFaultS.l0, if_pos (by rw [tabG_length]; omega), if_pos (by omega), er, w64 (n := 1 + 4 * (i : Int) + 1) (by omega) (by omega), w64 (n := 1 + 4 * (i : Int) + 1 + 1) (by omega) (by omega), w64 (n := 1 + 4 * (i : Int) + 1 + 1 + 1) (by omega) (by omega), w64 (n := 1 + 4 * (i : Int) + 1 + 1 + 1 + 1) (by omega) (by omega), w64 (n := (i : Int) + 1) (by omega) (by omega), if_pos (show (mkF i).f0 = 1 + 4 * (i : Int) from rfl), if_pos (show (mkF i).f1 = 1 + 4 * (i : Int) + 1 from rfl), if_pos (show (mkF i).f2 = 1 + 4 * (i : Int) + 1 + 1 from rfl), if_pos (show (mkF i).f3 = 1 + 4 * (i : Int) + 1 + 1 + 1 from rfl)]
    exact e
theorem heldF_f (n : Nat) (hl : n ≤ 1048576) (k : Nat) (hk : n < k) : laws_heldFaultS.f k (tabG mkF n) 1 = some (1 + 4 * (n : Int)) := by
  have e := heldF_l n hl n k 0 (by omega) hk
  exact e
theorem eqF_l (F : List S40) (hl : F.length ≤ 1048576) (d : Nat) : ∀ (k i : Nat), i + d = F.length → d < k → laws_eqFaultS.l0 k F F (i : Int) = some true := by
  induction d with
  | zero =>
    intro k i hi hk
    obtain ⟨k, rfl⟩ : ∃ n, k = n + 1 := ⟨k - 1, by omega⟩
    rw [laws_eqFaultS.l0, if_neg (by omega)]
  | succ d ih =>
    intro k i hi hk
    obtain ⟨k, rfl⟩ : ∃ n, k = n + 1 := ⟨k - 1, by omega⟩
    have e2 : ((i + 1 : Nat) : Int) = (i : Int) + 1 := by omega
    have e := ih k (i + 1) (by omega) (by omega)
    rw [e2] at e
    rw [laws_eqFaultS.l0, if_pos (by omega), if_pos (by omega), if_pos (by omega)]
    unfold laws_eqFault.f
    simp only [if_true, Option.bind_some]
    rw [w64 (by omega) (by omega)]
    exact e
theorem eqF_f (F : List S40) (hl : F.length ≤ 1048576) (k : Nat) (hk : F.length < k) : laws_eqFaultS.f k F F = some true := by
  unfold laws_eqFaultS.f
  rw [if_pos rfl]
  exact eqF_l F hl F.length k 0 (by omega) hk
theorem sin (x lo hi : Int) : spec_l00In.f x lo hi = some (inB x lo hi) := win x lo hi
theorem geo_spec (a b c : Int) : spec_ValidGeometry.f a b c = some (geoB a b c) := by
  unfold spec_ValidGeometry.f geoB
  rw [sin]
  simp only [Option.bind_some]
  cases inB a 2 3
  · simp
  · rw [if_pos rfl, sin]
    simp only [Option.bind_some]
    cases inB b 4 12
    · simp
    · rw [if_pos rfl]
      by_cases h : c = 8 <;> simp [h]
theorem fault_spec (k : Nat) (a b c x0 x1 x2 x3 : Int) : spec_ValidFault.f (k + 1) a b c x0 x1 x2 x3 = some (geoB a b c && faultB a b c x0 x1 x2 x3) := by
  unfold spec_ValidFault.f
  rw [geo_spec]
  simp only [Option.bind_some]
  cases hg : geoB a b c
  · simp
  · obtain ⟨g1, g2, g3, g4, g5⟩ := geo_bounds hg
    have m0 : 0 ≤ a * b := Int.mul_nonneg (by omega) (by omega)
    have m1 : a * b ≤ 3 * 12 := Int.mul_le_mul g2 g4 (by omega) (by decide)
    rw [if_pos rfl, w64 (n := a * b) (by omega) (by omega), w64 (by omega) (by omega), w64 (by omega) (by omega), sin, sin, sin]
    simp only [Option.bind_some, Bool.true_and]
    unfold faultB
    simp only
    by_cases h1 : x0 = 1
    · subst h1
      rw [if_pos rfl, spec_ValidFault.j0, if_pos (by decide), if_pos (Or.inl rfl)]
      cases inB x1 0 (a * b - 1) <;> cases inB x2 0 (c - 1) <;> rfl
    · by_cases h2 : x0 = 2
      · subst h2
        rw [if_neg h1, spec_ValidFault.j0, if_pos (by decide), if_pos (Or.inr rfl)]
        cases inB x1 0 (a * b - 1) <;> cases inB x2 0 (c - 1) <;> rfl
      · have e2 : (x0 == 2) = false := by simpa using h2
        rw [if_neg h1, spec_ValidFault.j0, e2, if_neg (by simp), if_neg (show ¬ (x0 = 1 ∨ x0 = 2) by omega)]
        by_cases h3 : x0 = 3
        · rw [if_pos h3, if_pos h3]
          cases inB x1 0 (a * b - 1) <;> cases inB x3 0 727 <;> simp
        · rw [if_neg h3, if_neg h3]
          by_cases h4 : x0 = 4
          · rw [if_pos h4, if_pos h4]
            by_cases z : x2 = 0 <;> cases inB x1 0 (a * b - 1) <;> simp [z]
          · rw [if_neg h4, if_neg h4]
            by_cases h5 : x0 = 5
            · rw [if_pos h5, if_pos h5]
              by_cases z : x1 = 0
              · rw [if_pos z, sin]
                simp only [Option.bind_some]
                cases inB x2 0 1000000
                · simp
                · rw [if_pos rfl, sin]
                  simp [z]
              · simp [z]
            · rw [if_neg h5, if_neg h5]
def fB (a b c : Int) (x : S40) : Bool := faultB a b c x.f0 x.f1 x.f2 x.f3
theorem rd_at (l : List S40) (i : Nat) (h : i < l.length) : rd_T40 l (i : Int) = l[i] := by simp [rd_T40, List.getD_eq_getElem?_getD, h]
theorem script_l (a b c : Int) (hg : geoB a b c = true) (l : List S40) (hl : l.length ≤ 1000000) (d : Nat) : ∀ (k i : Nat), i + d = l.length → d + 1 < k → spec_l08Script.l0 k l (i : Int) a b c = some ((l.drop i).all (fB a b c)) := by
  induction d with
  | zero =>
    intro k i hi hk
    obtain ⟨k, rfl⟩ : ∃ n, k = n + 1 := ⟨k - 1, by omega⟩
    rw [spec_l08Script.l0, if_neg (by omega), List.drop_eq_nil_of_le (by omega)]
    rfl
  | succ d ih =>
    intro k i hi hk
    obtain ⟨k, rfl⟩ : ∃ n, k = n + 2 := ⟨k - 2, by omega⟩
    have hlt : i < l.length := by omega
    have e := ih (k + 1) (i + 1) (by omega) (by omega)
    have e2 : ((i + 1 : Nat) : Int) = (i : Int) + 1 := by omega
    rw [e2] at e
    rw [show k + 2 = k + 1 + 1 from rfl, spec_l08Script.l0, if_pos (by omega), if_pos (by omega), fault_spec, hg, Bool.true_and, rd_at l i hlt, w64 (by omega) (by omega), e]
    simp only [Option.bind_some]
    rw [List.drop_eq_getElem_cons hlt, List.all_cons]
    have hh : faultB a b c l[i].f0 l[i].f1 l[i].f2 l[i].f3 = fB a b c l[i] := rfl
    rw [hh]
    cases fB a b c l[i] <;> rfl
def scriptB (a b c : Int) (l : List S40) : Bool := geoB a b c && (decide ((l.length : Int) ≤ 40) && l.all (fB a b c))
theorem script_f (a b c : Int) (l : List S40) (k : Nat) (hk : 50 < k) : spec_l08Script.f k a b c l = some (scriptB a b c l) := by
  unfold spec_l08Script.f scriptB
  rw [geo_spec]
  simp only [Option.bind_some]
  obtain ⟨k, rfl⟩ : ∃ n, k = n + 1 := ⟨k - 1, by omega⟩
  cases hg : geoB a b c
  · rw [if_neg (by simp), spec_l08Script.j0, if_pos rfl]
    rfl
  · rw [if_pos rfl, spec_l08Script.j0]
    by_cases c40 : (l.length : Int) > 40
    · rw [if_pos (by simpa using c40), decide_eq_false (by omega)]
      rfl
    · rw [if_neg (by simpa using c40), decide_eq_true (by omega)]
      have e := script_l a b c hg l (by omega) l.length k 0 (by omega) (by omega)
      have e0 : ((0 : Nat) : Int) = 0 := rfl
      rw [e0, List.drop_zero] at e
      rw [e]
      rfl
theorem txt_size (l : List UInt8) : (txt l).size = l.length := by simp [txt, ByteArray.size]
theorem txt_append (a b : List UInt8) : txt a ++ txt b = txt (a ++ b) := by
  apply ByteArray.ext
  rw [ByteArray.data_append]
  simp [txt]
theorem dig_f (u : Nat) (h : u < 10) : strOfNums [(wrap64 (48 + (u : Int))) % 256] = txt [UInt8.ofNat (48 + u)] := by
  have e : ((wrap64 (48 + (u : Int))) % 256).toNat = 48 + u := by
    rw [w64 (by omega) (by omega)]
    omega
  unfold strOfNums txt
  rw [List.map_cons, List.map_nil, e]
theorem num_l (d : Nat) : ∀ (u k : Nat), u < 10 ^ (d + 1) → u ≤ 2000000 → d < k → spec_l08Number.f k (u : Int) = some (txt (Lib.decDigits u)) := by
  induction d with
  | zero =>
    intro u k hu _ hk
    obtain ⟨k, rfl⟩ : ∃ q, k = q + 1 := ⟨k - 1, by omega⟩
    have h10 : u < 10 := by simpa using hu
    rw [spec_l08Number.f, if_pos (by omega), dig_f u h10, Lib.decDigits_one h10]
  | succ d ih =>
    intro u k hu hm hk
    obtain ⟨k, rfl⟩ : ∃ q, k = q + 1 := ⟨k - 1, by omega⟩
    by_cases h10 : u < 10
    · rw [spec_l08Number.f, if_pos (by omega), dig_f u h10, Lib.decDigits_one h10]
    · have hd : Int.tdiv (u : Int) 10 = ((u / 10 : Nat) : Int) := by rw [Int.tdiv_eq_ediv_of_nonneg (by omega)]; omega
      have hr : Int.tmod (u : Int) 10 = ((u % 10 : Nat) : Int) := by rw [Int.tmod_eq_emod_of_nonneg (by omega)]; omega
      have e := ih (u / 10) k (by rw [Nat.pow_succ] at hu; omega) (by omega) (by omega)
      have hl : (Lib.decDigits (u / 10)).length ≤ 20 := by rw [Lib.decDigits_length]; exact Lib.nDigits_le20 _ (by omega)
      rw [spec_l08Number.f, if_neg (by omega), hd, hr, w64 (n := ((u / 10 : Nat) : Int)) (by omega) (by omega), e]
      simp only [Option.bind_some]
      rw [dig_f (u % 10) (by omega), if_pos (by rw [txt_size, txt_size]; simp; omega), txt_append]
      have e9 : Lib.decDigits u = Lib.decDigits (u / 10) ++ [UInt8.ofNat (48 + u % 10)] := by rw [Lib.decDigits, dif_neg h10]
      rw [e9]
theorem num_f (n : Int) (h : okN n) (k : Nat) (hk : 10 < k) : spec_l08Number.f k n = some (txt (Lib.itoa n)) := by
  obtain ⟨h0, h1⟩ := h
  obtain ⟨u, rfl⟩ : ∃ u : Nat, n = (u : Int) := ⟨n.toNat, by omega⟩
  have e : Lib.itoa (u : Int) = Lib.decDigits u := by unfold Lib.itoa; rw [if_neg (by omega)]; simp
  rw [e]
  exact num_l 7 u k (by have : (10 : Nat) ^ 8 = 100000000 := by decide
                        omega) (by omega) (by omega)
def line0 (x : S40) : List UInt8 := (wordK x.f0).data.toList ++ (numsF x).flatMap numL
theorem lineL_eq (x : S40) : lineL x = line0 x ++ [10] := by
  unfold lineL line0
  rw [List.append_assoc]
theorem itoa_le {n : Int} (h : okN n) : (Lib.itoa n).length ≤ 21 := Lib.itoa_length_le n (by have := h.1; omega) (by have := h.2; omega)
theorem line_f (x : S40) (h : okF x) (k : Nat) (hk : 10 < k) : spec_l08Line.f k x.f0 x.f1 x.f2 x.f3 = some (txt (line0 x)) := by
  obtain ⟨h0, h1, h2, h3⟩ := h
  have e1 := num_f x.f1 h1 k hk
  have e2 := num_f x.f2 h2 k hk
  have e3 := num_f x.f3 h3 k hk
  have s1 := itoa_le h1
  have s2 := itoa_le h2
  have s3 := itoa_le h3
  unfold spec_l08Line.f
  rw [e1, e2, e3]
  have q1 : (⟨#[98, 105, 116, 32]⟩ : ByteArray) = txt [98, 105, 116, 32] := rfl
  have q2 : (⟨#[32]⟩ : ByteArray) = txt [32] := rfl
  have q3 : (⟨#[100, 105, 115, 116, 117, 114, 98, 32]⟩ : ByteArray) = txt [100, 105, 115, 116, 117, 114, 98, 32] := rfl
  have q4 : (⟨#[114, 101, 116, 101, 110, 116, 105, 111, 110, 32]⟩ : ByteArray) = txt [114, 101, 116, 101, 110, 116, 105, 111, 110, 32] := rfl
  have q5 : (⟨#[98, 108, 111, 99, 107, 32]⟩ : ByteArray) = txt [98, 108, 111, 99, 107, 32] := rfl
  have q6 : (⟨#[99, 117, 116, 32]⟩ : ByteArray) = txt [99, 117, 116, 32] := rfl
  rw [q1, q2, q3, q4, q5, q6]
  simp only [Option.bind_some, txt_append, txt_size, List.length_append, List.length_cons, List.length_nil]
  have hk5 : x.f0 = 1 ∨ x.f0 = 2 ∨ x.f0 = 3 ∨ x.f0 = 4 ∨ x.f0 = 5 := by omega
  unfold line0 numsF
  rcases hk5 with c | c | c | c | c
  all_goals
    rw [c]
    simp only [if_pos, show ((1 : Int) = 3) = False from by decide, show ((1 : Int) = 4) = False from by decide, show ((1 : Int) = 5) = False from by decide, show ((2 : Int) = 1) = False from by decide, show ((2 : Int) = 3) = False from by decide, show ((2 : Int) = 4) = False from by decide, show ((2 : Int) = 5) = False from by decide, show ((3 : Int) = 1) = False from by decide, show ((3 : Int) = 2) = False from by decide, show ((4 : Int) = 1) = False from by decide, show ((4 : Int) = 2) = False from by decide, show ((4 : Int) = 3) = False from by decide, show ((5 : Int) = 1) = False from by decide, show ((5 : Int) = 2) = False from by decide, show ((5 : Int) = 3) = False from by decide, show ((5 : Int) = 4) = False from by decide, if_false]
    repeat rw [if_pos (by omega)]
    congr 2
  · rw [show (wordK 1).data.toList = [98, 105, 116] from by decide]; simp [numL]
  · rw [show (wordK 2).data.toList = [100, 105, 115, 116, 117, 114, 98] from by decide]; simp [numL]
  · rw [show (wordK 3).data.toList = [114, 101, 116, 101, 110, 116, 105, 111, 110] from by decide]; simp [numL]
  · rw [show (wordK 4).data.toList = [98, 108, 111, 99, 107] from by decide]; simp [numL]
  · rw [show (wordK 5).data.toList = [99, 117, 116] from by decide]; simp [numL]
theorem ok_script (a b c : Int) (l : List S40) : okScript a b c l = scriptB a b c l := by
  unfold okScript scriptB
  congr 2
  rw [List.all_eq_not_any_not]
  rfl
theorem spec_l (a b c : Int) (m : List S40) (hs : scriptB a b c m = true) (hok : ∀ x ∈ m, okF x) (hl : m.length ≤ 40) (d : Nat) : ∀ (k i : Nat), i + d = m.length → d + 60 < k → spec_FormatFaults.l0 k m (txt (textL (m.take i))) (i : Int) a b c = some (txt (textL m)) := by
  induction d with
  | zero =>
    intro k i hi hk
    obtain ⟨k, rfl⟩ : ∃ q, k = q + 1 := ⟨k - 1, by omega⟩
    obtain rfl : i = m.length := by omega
    rw [spec_FormatFaults.l0, if_neg (by omega), List.take_length]
  | succ d ih =>
    intro k i hi hk
    obtain ⟨k, rfl⟩ : ∃ q, k = q + 1 := ⟨k - 1, by omega⟩
    have hlt : i < m.length := by omega
    have e := ih k (i + 1) (by omega) (by omega)
    have e2 : ((i + 1 : Nat) : Int) = (i : Int) + 1 := by omega
    have hb := take_text_len m (i + 1)
    have hb2 := textL_len m hok
    rw [take_text m i hlt, lineL_eq] at e hb
    rw [e2] at e
    simp only [List.length_append, List.length_cons, List.length_nil] at hb
    have hx : okF (rd_T40 m (i : Int)) := by rw [rd_getElem m i hlt]; exact hok _ (List.getElem_mem hlt)
    rw [spec_FormatFaults.l0, if_pos (by omega), script_f a b c m k (by omega), hs]
    simp only [Option.bind_some]
    rw [if_pos trivial, if_pos (by omega), line_f _ hx k (by omega)]
    simp only [Option.bind_some]
    have q : (⟨#[10]⟩ : ByteArray) = txt [10] := rfl
    rw [q, txt_append, txt_append, txt_size, txt_size, txt_size, List.length_append, if_pos (by omega), if_pos (by omega), w64 (n := (i : Int) + 1) (by omega) (by omega), List.append_assoc]
    exact e
theorem fmt_spec (a b c : Int) (m : List S40) (hs : okScript a b c m = true) (k : Nat) (hk : 200 < k) : spec_FormatFaults.f k a b c m = some (txt (textL m)) := by
  have h := okScript_true hs
  unfold spec_FormatFaults.f
  rw [ok_script] at hs
  exact spec_l a b c m hs (fun x hx => fault_okF h.1 (h.2.2 x hx)) h.2.1 m.length k 0 (by omega) (by omega)
theorem txt_data (s : ByteArray) : txt s.data.toList = s := by apply ByteArray.ext; simp [txt]
theorem txt_toList (l : List UInt8) : (txt l).data.toList = l := by simp [txt]
/-- the pieces of a text, cut at every c -/
def cutA (c : UInt8) (cur : List UInt8) : List UInt8 → List (List UInt8)
  | [] => [cur]
  | x :: t => if x = c then cur :: cutA c [] t else cutA c (cur ++ [x]) t
theorem cutA_ne (c : UInt8) : ∀ (l cur : List UInt8), cutA c cur l ≠ []
  | [], _ => by simp [cutA]
  | x :: t, cur => by
    rw [cutA]
    split
    · simp
    · exact cutA_ne c t _
theorem cutA_length (c : UInt8) : ∀ (l cur : List UInt8), (cutA c cur l).length ≤ l.length + 1
  | [], _ => by simp [cutA]
  | x :: t, cur => by
    rw [cutA]
    split
    · have := cutA_length c t []; simp; omega
    · have := cutA_length c t (cur ++ [x]); simp; omega
theorem cutA_size (c : UInt8) : ∀ (l cur y : List UInt8), y ∈ cutA c cur l → y.length ≤ cur.length + l.length
  | [], cur, y, h => by simp [cutA] at h; subst h; simp
  | x :: t, cur, y, h => by
    rw [cutA] at h
    split at h
    · rcases List.mem_cons.1 h with rfl | h
      · omega
      · have := cutA_size c t [] y h; simp at this ⊢; omega
    · have := cutA_size c t (cur ++ [x]) y h; simp at this ⊢; omega
theorem cutA_step (c : UInt8) : ∀ (a cur t : List UInt8), c ∉ a → cutA c cur (a ++ c :: t) = (cur ++ a) :: cutA c [] t
  | [], cur, t, _ => by simp [cutA]
  | x :: a, cur, t, h => by
    have hx : x ≠ c := fun e => h (by simp [e])
    rw [List.cons_append, cutA, if_neg hx, cutA_step c a _ t (fun m => h (List.mem_cons_of_mem _ m))]
    simp
theorem cutA_last (c : UInt8) : ∀ (a cur : List UInt8), c ∉ a → cutA c cur a = [cur ++ a]
  | [], cur, _ => by simp [cutA]
  | x :: a, cur, h => by
    have hx : x ≠ c := fun e => h (by simp [e])
    rw [cutA, if_neg hx, cutA_last c a _ (fun m => h (List.mem_cons_of_mem _ m))]
    simp
theorem ext_txt (s : ByteArray) (i j : Nat) : s.extract i j = txt ((s.data.toList.drop i).take (j - i)) := by
  rw [← txt_data (s.extract i j), Lib.extract_data]
theorem cap_ok {n : Nat} (h : n ≤ 1048576) : n < 8796093022208 := Nat.lt_of_le_of_lt h (by decide)
set_option maxRecDepth 100000 in
theorem l08Split_l (s : ByteArray) (c : UInt8) (hs : s.size ≤ 1048576) : ∀ (d i j k : Nat) (acc : List ByteArray), i ≤ j → j + d = s.size → acc.length ≤ j → d + 1 < k →
    spec_l08Split.l0 k s (c.toNat : Int) acc (i : Int) (j : Int) = some (acc ++ (cutA c ((s.data.toList.drop i).take (j - i)) (s.data.toList.drop j)).map txt) := by
  intro d
  induction d with
  | zero =>
    intro i j k acc hij hj ha hk
    obtain ⟨k, rfl⟩ : ∃ q, k = q + 1 := ⟨k - 1, by omega⟩
    obtain ⟨k, rfl⟩ : ∃ q, k = q + 1 := ⟨k - 1, by omega⟩
    rw [spec_l08Split.l0, if_pos (by omega), if_pos (by omega), if_pos (by omega), if_pos (by omega), if_pos (cap_ok (by omega)), w64 (by omega) (by omega), spec_l08Split.l0, if_neg (by omega)]
    have e : s.data.toList.drop j = [] := List.drop_eq_nil_of_le (by have : s.data.toList.length = s.size := Array.length_toList
                                                                     omega)
    rw [e, cutA]
    have e2 : s.extract (i : Int).toNat (j : Int).toNat = txt ((s.data.toList.drop i).take (j - i)) := by
      rw [Int.toNat_natCast, Int.toNat_natCast]; exact ext_txt s i j
    rw [e2]; simp
  | succ d ih =>
    intro i j k acc hij hj ha hk
    obtain ⟨k, rfl⟩ : ∃ q, k = q + 1 := ⟨k - 1, by omega⟩
    have hl : s.data.toList.length = s.size := Array.length_toList
    have hd : s.data.toList.drop j = s.data.toList[j]'(by omega) :: s.data.toList.drop (j + 1) := List.drop_eq_getElem_cons (by omega)
    have hb : bt s (j : Int) = ((s.data.toList[j]'(by omega)).toNat : Int) := by
      rw [← bt_at s (j : Int) (by show j < s.size; omega)]; rfl
    rw [spec_l08Split.l0, if_pos (by omega), if_neg (by omega), if_pos (by omega), if_pos (by omega), hb, w64 (by omega) (by omega), hd, cutA]
    have e1 : ((j : Int) + 1) = ((j + 1 : Nat) : Int) := by omega
    by_cases hc : s.data.toList[j]'(by omega) = c
    · rw [if_pos (by rw [hc]), if_pos (by omega), if_pos (by omega), if_pos (cap_ok (by omega)), if_pos hc, e1]
      have e2 : s.extract (i : Int).toNat (j : Int).toNat = txt ((s.data.toList.drop i).take (j - i)) := by
        rw [Int.toNat_natCast, Int.toNat_natCast]; exact ext_txt s i j
      rw [e2, ih (j + 1) (j + 1) k _ (by omega) (by omega) (by simp; omega) (by omega)]
      simp
    · rw [if_neg (fun e => hc (by apply UInt8.toNat_inj.1; omega)), if_neg hc, e1, ih i (j + 1) k _ (by omega) (by omega) (by omega) (by omega)]
      have e3 : (s.data.toList.drop i).take (j + 1 - i) = (s.data.toList.drop i).take (j - i) ++ [s.data.toList[j]'(by omega)] := by
        rw [show j + 1 - i = (j - i) + 1 by omega, List.take_add_one]
        congr 1
        rw [List.getElem?_drop, show i + (j - i) = j by omega, List.getElem?_eq_getElem (by omega)]
        rfl
      rw [e3]
theorem l08Split_f (s : ByteArray) (c : UInt8) (hs : s.size ≤ 1048576) (k : Nat) (hk : s.size + 1 < k) : spec_l08Split.f k s (c.toNat : Int) = some ((cutA c [] s.data.toList).map txt) := by
  have := l08Split_l s c hs s.size 0 0 k [] (by omega) (by omega) (by simp) hk
  unfold spec_l08Split.f
  simpa using this
theorem index_one (c : UInt8) (t : List UInt8) : ∀ a : List UInt8, c ∉ a → Lib.index (a ++ c :: t) [c] = (a.length : Int)
  | [], _ => by rw [List.nil_append, Lib.index]; simp [List.isPrefixOf]
  | x :: a, h => by
    have hx : x ≠ c := fun e => h (by simp [e])
    have ih := index_one c t a (fun m => h (List.mem_cons_of_mem _ m))
    have hp : ([c] : List UInt8).isPrefixOf (x :: (a ++ c :: t)) = false := by simp [List.isPrefixOf, Ne.symm hx]
    rw [List.cons_append, Lib.index, hp, ih]
    simp
theorem splitK_cut (c : UInt8) : ∀ (k : Nat) (l : List UInt8), l.count c = k → Lib.splitK [c] 0 k l = cutA c [] l
  | 0, l, h => by
    rw [cutA_last c l [] (List.count_eq_zero.1 h), List.nil_append]
    rfl
  | k + 1, l, h => by
    have hm : c ∈ l := List.count_pos_iff.1 (by omega)
    obtain ⟨a, t, rfl, ha⟩ := List.eq_append_cons_of_mem hm
    have h2 : t.count c = k := by
      rw [List.count_append, List.count_cons_self, List.count_eq_zero.2 ha] at h
      omega
    rw [Lib.splitK, index_one c t a ha, if_neg (by simp), cutA_step c a [] t ha, List.nil_append]
    congr 1
    · simp
    · rw [← splitK_cut c k t h2]
      congr 1
      simp [List.drop_append]
theorem split_f (s : ByteArray) (c : UInt8) (hs : s.size ≤ 1048576) : strings_Split.f s ⟨#[c]⟩ = some ((cutA c [] s.data.toList).map txt) := by
  unfold strings_Split.f
  rw [if_pos ⟨by omega, by show 1 ≤ 1; omega⟩]
  congr 1
  have e := Lib.splitB_data ⟨#[c]⟩ 0 (Lib.countB s ⟨#[c]⟩) s
  have e2 : Lib.countB s ⟨#[c]⟩ = s.data.toList.count c := Lib.count_one c s.data.toList
  rw [e2] at e ⊢
  rw [← splitK_cut c _ s.data.toList rfl, ← e, List.map_map]
  have : (txt ∘ fun x : ByteArray => x.data.toList) = id := funext (fun x => txt_data x)
  rw [this, List.map_id]
theorem digs (u : Nat) : ∀ x ∈ Lib.decDigits u, 48 ≤ x.toNat ∧ x.toNat ≤ 57 := by
  induction u using Nat.strongRecOn with
  | ind u ih =>
    intro x hx
    rw [Lib.decDigits] at hx
    split at hx
    · rename_i h
      obtain rfl := List.mem_singleton.1 hx
      rw [UInt8.toNat_ofNat']
      omega
    · rename_i h
      rcases List.mem_append.1 hx with h1 | h1
      · exact ih (u / 10) (by omega) x h1
      · obtain rfl := List.mem_singleton.1 h1
        rw [UInt8.toNat_ofNat']
        omega
theorem itoa_nat {n : Int} (h : 0 ≤ n) : Lib.itoa n = Lib.decDigits n.toNat := by
  unfold Lib.itoa
  rw [if_neg (by omega)]
theorem itoa_no {n : Int} (h : 0 ≤ n) (c : UInt8) (hc : c.toNat < 48) : c ∉ Lib.itoa n := by
  rw [itoa_nat h]
  intro hm
  have := digs _ c hm
  omega
theorem word_no {k : Int} (h1 : 1 ≤ k) (h5 : k ≤ 5) : (32 : UInt8) ∉ (wordK k).data.toList ∧ (10 : UInt8) ∉ (wordK k).data.toList := by
  obtain rfl | rfl | rfl | rfl | rfl : k = 1 ∨ k = 2 ∨ k = 3 ∨ k = 4 ∨ k = 5 := by omega
  all_goals decide
theorem line0_no {x : S40} (h : okF x) : (10 : UInt8) ∉ line0 x := by
  unfold line0
  intro hm
  rcases List.mem_append.1 hm with h1 | h1
  · exact (word_no h.1.1 h.1.2).2 h1
  · obtain ⟨n, hn, h2⟩ := List.mem_flatMap.1 h1
    have hk := (nums_ok h n hn).1
    unfold numL at h2
    rcases List.mem_cons.1 h2 with h3 | h3
    · exact absurd h3 (by decide)
    · exact itoa_no hk 10 (by decide) h3
theorem indexByte_at (c : UInt8) (t : List UInt8) : ∀ a : List UInt8, c ∉ a → Lib.indexByte (a ++ c :: t) c = (a.length : Int)
  | [], _ => by rw [List.nil_append, Lib.indexByte]; simp
  | x :: a, h => by
    have hx : x ≠ c := fun e => h (by simp [e])
    have ih := indexByte_at c t a (fun m => h (List.mem_cons_of_mem _ m))
    rw [List.cons_append, Lib.indexByte, ih]
    simp [hx]
    try omega
theorem textL_cons (x : S40) (l : List S40) : textL (x :: l) = line0 x ++ 10 :: textL l := by
  unfold textL
  rw [List.flatMap_cons, lineL_eq]
  simp
theorem linesF_text : ∀ (l : List S40), (∀ x ∈ l, okF x) → ∀ k, (textL l).length ≤ k → Rng.linesF k (txt (textL l)) = l.map (fun x => txt (lineL x))
  | [], _, 0, _ => rfl
  | [], _, k + 1, _ => by
    rw [Rng.linesF, if_pos (by rfl)]
    rfl
  | x :: l, h, k, hk => by
    have h0 := line0_no (h x List.mem_cons_self)
    rw [textL_cons] at hk
    simp only [List.length_append, List.length_cons] at hk
    obtain ⟨k, rfl⟩ : ∃ q, k = q + 1 := ⟨k - 1, by omega⟩
    have hn : Rng.nl = 10 := by decide
    have hi := indexByte_at 10 (textL l) (line0 x) h0
    rw [Rng.linesF, hn, textL_cons, txt_toList, hi, txt_size, if_neg (by simp), if_neg (by omega)]
    have e1 : ((line0 x).length : Int).toNat = (line0 x).length := by omega
    rw [e1, ext_txt, ext_txt, txt_toList, List.map_cons]
    have e0 : line0 x ++ 10 :: textL l = (line0 x ++ [10]) ++ textL l := by simp
    have e2 : List.take ((line0 x).length + 1 - 0) (List.drop 0 (line0 x ++ 10 :: textL l)) = lineL x := by
      rw [List.drop_zero, Nat.sub_zero, lineL_eq, e0]
      exact List.take_left' (by simp)
    have e3 : List.take ((line0 x ++ 10 :: textL l).length - ((line0 x).length + 1)) (List.drop ((line0 x).length + 1) (line0 x ++ 10 :: textL l)) = textL l := by
      rw [e0, List.drop_left' (by simp)]
      exact List.take_of_length_le (by simp; omega)
    rw [e2, e3, linesF_text l (fun y hy => h y (List.mem_cons_of_mem _ hy)) k (by omega)]
theorem lines_text (l : List S40) (h : ∀ x ∈ l, okF x) : Rng.linesOf (txt (textL l)) = l.map (fun x => txt (lineL x)) := linesF_text l h _ (by rw [txt_size]; exact Nat.le_refl _)
def fv (v : Nat) (l : List UInt8) : Nat := l.foldl (fun v x => 10 * v + (x.toNat - 48)) v
theorem fv_nil (v : Nat) : fv v [] = v := by unfold fv; exact List.foldl_nil
theorem fv_cons (v : Nat) (x : UInt8) (t : List UInt8) : fv v (x :: t) = fv (10 * v + (x.toNat - 48)) t := by unfold fv; exact List.foldl_cons
theorem fv_ge (l : List UInt8) : ∀ (v : Nat), v ≤ fv v l := by
  induction l with
  | nil => intro v; rw [fv_nil]; exact Nat.le_refl _
  | cons x t ih =>
    intro v
    have := ih (10 * v + (x.toNat - 48))
    rw [fv_cons]
    omega
theorem fv_snoc (x : UInt8) (l : List UInt8) (v : Nat) : fv v (l ++ [x]) = 10 * fv v l + (x.toNat - 48) := by
  unfold fv
  rw [List.foldl_append, List.foldl_cons, List.foldl_nil]
theorem dg48 (a : Nat) (h : a < 10) : (UInt8.ofNat (48 + a)).toNat - 48 = a := by
  rw [UInt8.toNat_ofNat']
  omega
theorem fv_dec (u : Nat) : fv 0 (Lib.decDigits u) = u := by
  induction u using Nat.strongRecOn with
  | ind u ih =>
    rw [Lib.decDigits]
    split
    · rename_i h
      rw [fv_cons, fv_nil, dg48 u h]
      omega
    · rename_i h
      rw [fv_snoc, ih (u / 10) (by omega), dg48 _ (by omega)]
      omega
theorem dec_len (d : Nat) : ∀ u : Nat, u < 10 ^ (d + 1) → (Lib.decDigits u).length ≤ d + 1 := by
  induction d with
  | zero =>
    intro u h
    rw [Lib.decDigits_one (by simpa using h)]
    simp
  | succ d ih =>
    intro u h
    rw [Lib.decDigits]
    split
    · simp
    · have := ih (u / 10) (by rw [Nat.pow_succ] at h; omega)
      rw [List.length_append, List.length_singleton]
      omega
theorem dec_pos (u : Nat) : 1 ≤ (Lib.decDigits u).length := by
  rw [Lib.decDigits]
  split <;> simp
theorem bt_txt (l : List UInt8) (i : Nat) (h : i < l.length) : bt (txt l) (i : Int) = ((l[i]).toNat : Int) := by
  rw [← bt_at (txt l) (i : Int) (by show i < (txt l).size; rw [txt_size]; exact h)]
  rfl
theorem parse_l (l : List UInt8) (hl : l.length ≤ 7) (hd : ∀ x ∈ l, 48 ≤ x.toNat ∧ x.toNat ≤ 57) (d : Nat) : ∀ (k i v : Nat), i + d = l.length → d < k → fv v (l.drop i) ≤ 2000000 → spec_l08Parse.l0 k (txt l) (v : Int) (i : Int) = some ((fv v (l.drop i) : Int), true) := by
  induction d with
  | zero =>
    intro k i v hi hk _
    obtain ⟨k, rfl⟩ : ∃ q, k = q + 1 := ⟨k - 1, by omega⟩
    rw [spec_l08Parse.l0, txt_size, if_neg (by omega), List.drop_eq_nil_of_le (by omega), fv_nil]
  | succ d ih =>
    intro k i v hi hk hv
    obtain ⟨k, rfl⟩ : ∃ q, k = q + 1 := ⟨k - 1, by omega⟩
    have hlt : i < l.length := by omega
    have hc := List.drop_eq_getElem_cons hlt
    rw [hc, fv_cons] at hv
    have hb := hd l[i] (List.getElem_mem hlt)
    have hge := fv_ge (l.drop (i + 1)) (10 * v + (l[i].toNat - 48))
    have e := ih k (i + 1) (10 * v + (l[i].toNat - 48)) (by omega) (by omega) hv
    rw [spec_l08Parse.l0, txt_size, if_pos (by omega), if_pos (by omega), bt_txt l i hlt, if_neg (by omega), if_neg (by omega), w64 (n := 10 * (v : Int)) (by omega) (by omega), w64 (n := (i : Int) + 1) (by omega) (by omega), w64 (by omega) (by omega), hc, fv_cons]
    have e1 : (10 * (v : Int) + ((l[i].toNat : Int) - 48) % 256) = ((10 * v + (l[i].toNat - 48) : Nat) : Int) := by omega
    rw [e1, show (i : Int) + 1 = ((i + 1 : Nat) : Int) by omega]
    exact e
theorem parse_f (n : Int) (h : okN n) (k : Nat) (hk : 20 < k) : spec_l08Parse.f k (txt (Lib.itoa n)) = some (n, true) := by
  obtain ⟨h0, h1⟩ := h
  rw [itoa_nat h0]
  have p1 := dec_pos n.toNat
  have p2 := dec_len 6 n.toNat (by have : (10 : Nat) ^ 7 = 10000000 := by decide
                                   omega)
  unfold spec_l08Parse.f
  rw [txt_size, if_neg (by omega), show decide (((Lib.decDigits n.toNat).length : Int) > 7) = false from decide_eq_false (by omega)]
  obtain ⟨k, rfl⟩ : ∃ q, k = q + 1 := ⟨k - 1, by omega⟩
  rw [spec_l08Parse.j0, if_neg (by simp)]
  have e := parse_l (Lib.decDigits n.toNat) (by omega) (digs _) (Lib.decDigits n.toNat).length k 0 0 (by omega) (by omega) (by rw [List.drop_zero, fv_dec]; omega)
  rw [List.drop_zero, fv_dec] at e
  have e2 : ((n.toNat : Nat) : Int) = n := by omega
  rw [e2] at e
  exact e
theorem parse_any_l (s : ByteArray) (hs : s.size ≤ 7) (d : Nat) : ∀ (k i : Nat) (v : Int), i + d = s.size → d < k → (spec_l08Parse.l0 k s v (i : Int)).isSome = true := by
  induction d with
  | zero =>
    intro k i v hi hk
    obtain ⟨k, rfl⟩ : ∃ q, k = q + 1 := ⟨k - 1, by omega⟩
    rw [spec_l08Parse.l0, if_neg (by omega)]
    rfl
  | succ d ih =>
    intro k i v hi hk
    obtain ⟨k, rfl⟩ : ∃ q, k = q + 1 := ⟨k - 1, by omega⟩
    rw [spec_l08Parse.l0, if_pos (by omega), if_pos (by omega)]
    split
    · rfl
    · split
      · rfl
      · rw [w64 (n := (i : Int) + 1) (by omega) (by omega), show (i : Int) + 1 = ((i + 1 : Nat) : Int) by omega]
        exact ih k (i + 1) _ (by omega) (by omega)
theorem parse_any (s : ByteArray) (k : Nat) (hk : 20 < k) : (spec_l08Parse.f k s).isSome = true := by
  obtain ⟨k, rfl⟩ : ∃ q, k = q + 1 := ⟨k - 1, by omega⟩
  unfold spec_l08Parse.f
  split
  · rw [spec_l08Parse.j0, if_pos rfl]; rfl
  · rw [spec_l08Parse.j0]
    split
    · rfl
    · rename_i h1 h2
      have h3 : s.size ≤ 7 := by
        have := of_decide_eq_false (Bool.eq_false_iff.2 h2)
        omega
      exact parse_any_l s h3 s.size k 0 0 (by omega) (by omega)
theorem cut_line (ns : List Int) : ∀ (w : List UInt8), (32 : UInt8) ∉ w → (∀ n ∈ ns, 0 ≤ n) → cutA 32 [] (w ++ ns.flatMap numL) = w :: ns.map Lib.itoa := by
  induction ns with
  | nil =>
    intro w hw _
    rw [List.flatMap_nil, List.append_nil, cutA_last 32 w [] hw]
    rfl
  | cons n t ih =>
    intro w hw hn
    have e : w ++ (n :: t).flatMap numL = w ++ 32 :: (Lib.itoa n ++ t.flatMap numL) := by rw [List.flatMap_cons]; rfl
    rw [e, cutA_step 32 w [] _ hw, List.nil_append, ih (Lib.itoa n) (itoa_no (hn n List.mem_cons_self) 32 (by decide)) (fun m hm => hn m (List.mem_cons_of_mem _ hm))]
    rfl
def piecesF (x : S40) : List ByteArray := wordK x.f0 :: (numsF x).map (fun n => txt (Lib.itoa n))
theorem cut_pieces (x : S40) (h : okF x) : (cutA 32 [] (line0 x)).map txt = piecesF x := by
  unfold line0 piecesF
  rw [cut_line (numsF x) _ (word_no h.1.1 h.1.2).1 (fun n hn => (nums_ok h n hn).1), List.map_cons, txt_data, List.map_map]
  rfl
def okZ (x : S40) : Prop := (x.f0 = 3 → x.f2 = 0) ∧ (x.f0 = 4 → x.f2 = 0 ∧ x.f3 = 0) ∧ (x.f0 = 5 → x.f1 = 0)
theorem fault_okZ {a b c : Int} {x : S40} (h : faultB a b c x.f0 x.f1 x.f2 x.f3 = true) : okZ x := by
  unfold okZ
  simp only [faultB, inB] at h
  generalize a * b = ab at *
  split at h
  · simp only [Bool.and_eq_true, decide_eq_true_eq, beq_iff_eq] at h
    omega
  · split at h
    · simp only [Bool.and_eq_true, decide_eq_true_eq, beq_iff_eq] at h
      omega
    · split at h
      · simp only [Bool.and_eq_true, decide_eq_true_eq, beq_iff_eq] at h
        omega
      · split at h
        · simp only [Bool.and_eq_true, decide_eq_true_eq, beq_iff_eq] at h
          omega
        · simp at h
theorem faultS_l (w : ByteArray) (ns : List Int) (hn : ∀ n ∈ ns, okN n) (hl : ns.length ≤ 1000) (r : Int × Int × Int × Int × Bool) (hr : ∀ k, 10 < k → spec_l08Fault.l0 k (w :: ns.map (fun n => txt (Lib.itoa n))) ns ((ns.length + 1 : Nat) : Int) = some r) (d : Nat) : ∀ (k i : Nat), i + d = ns.length → d + 30 < k → spec_l08Fault.l0 k (w :: ns.map (fun n => txt (Lib.itoa n))) (ns.take i) ((i + 1 : Nat) : Int) = some r := by
  induction d with
  | zero =>
    intro k i hi hk
    obtain rfl : i = ns.length := by omega
    rw [List.take_length]
    exact hr k (by omega)
  | succ d ih =>
    intro k i hi hk
    obtain ⟨k, rfl⟩ : ∃ q, k = q + 1 := ⟨k - 1, by omega⟩
    have hlt : i < ns.length := by omega
    have e := ih k (i + 1) (by omega) (by omega)
    have hp : rdOf ByteArray.empty (w :: ns.map (fun n => txt (Lib.itoa n))) ((i + 1 : Nat) : Int) = txt (Lib.itoa ns[i]) := by
      unfold rdOf
      rw [Int.toNat_natCast]
      simp [List.getD_eq_getElem?_getD, hlt]
    rw [spec_l08Fault.l0, if_pos (by simp only [List.length_cons, List.length_map]; omega), if_pos (by omega), hp, parse_f ns[i] (hn _ (List.getElem_mem hlt)) k (by omega)]
    simp only [Option.bind_some]
    rw [if_pos trivial, if_pos (by rw [List.length_take]; exact Nat.lt_of_le_of_lt (Nat.min_le_right _ _) (Nat.lt_of_le_of_lt hl (by decide))), w64 (by omega) (by omega)]
    rw [List.take_add_one, List.getElem?_eq_getElem hlt] at e
    exact e
theorem word_1 : (wordK 1).toList = ([98, 105, 116] : List UInt8) := by rw [Lib.toList_data]; decide
theorem word_2 : (wordK 2).toList = ([100, 105, 115, 116, 117, 114, 98] : List UInt8) := by rw [Lib.toList_data]; decide
theorem word_3 : (wordK 3).toList = ([114, 101, 116, 101, 110, 116, 105, 111, 110] : List UInt8) := by rw [Lib.toList_data]; decide
theorem word_4 : (wordK 4).toList = ([98, 108, 111, 99, 107] : List UInt8) := by rw [Lib.toList_data]; decide
theorem word_5 : (wordK 5).toList = ([99, 117, 116] : List UInt8) := by rw [Lib.toList_data]; decide
theorem rd_head (a : ByteArray) (l : List ByteArray) : rdOf ByteArray.empty (a :: l) 0 = a := rfl
theorem faultS_x (x : S40) (h : okF x) (hz : okZ x) (k : Nat) (hk : 100 < k) : spec_l08Fault.f k (piecesF x) = some (x.f0, x.f1, x.f2, x.f3, true) := by
  unfold spec_l08Fault.f piecesF
  have hlen : (numsF x).length ≤ 3 := by unfold numsF; (repeat' split) <;> simp
  refine faultS_l (wordK x.f0) (numsF x) (nums_ok h) (by omega) _ ?_ (numsF x).length k 0 (by omega) (by omega)
  intro k hk
  obtain ⟨k, rfl⟩ : ∃ q, k = q + 1 := ⟨k - 1, by omega⟩
  obtain ⟨k, rfl⟩ : ∃ q, k = q + 1 := ⟨k - 1, by omega⟩
  obtain ⟨k, rfl⟩ : ∃ q, k = q + 1 := ⟨k - 1, by omega⟩
  obtain ⟨k, rfl⟩ : ∃ q, k = q + 1 := ⟨k - 1, by omega⟩
  obtain ⟨k, rfl⟩ : ∃ q, k = q + 1 := ⟨k - 1, by omega⟩
  obtain ⟨k, rfl⟩ : ∃ q, k = q + 1 := ⟨k - 1, by omega⟩
  rw [spec_l08Fault.l0, if_neg (by simp only [List.length_cons, List.length_map]; omega), if_pos (by simp only [List.length_cons]; omega)]
  have hw : rdOf ByteArray.empty (wordK x.f0 :: (numsF x).map (fun n => txt (Lib.itoa n))) 0 = wordK x.f0 := rfl
  obtain ⟨x0, x1, x2, x3⟩ := x
  have hk5 : x0 = 1 ∨ x0 = 2 ∨ x0 = 3 ∨ x0 = 4 ∨ x0 = 5 := by have := h.1; simp only at this; omega
  obtain ⟨z3, z4, z5⟩ := hz
  simp only at z3 z4 z5 hw ⊢
  rcases hk5 with rfl | rfl | rfl | rfl | rfl
  · rw [hw, word_1, if_pos rfl]
    simp [spec_l08Fault.j1, numsF, rd, rd_head, word_1]
  · rw [hw, word_2, if_neg (by decide)]
    simp [spec_l08Fault.j1, spec_l08Fault.j2, numsF, rd, rd_head, word_2]
  · rw [hw, word_3, if_neg (by decide)]
    simp [spec_l08Fault.j1, spec_l08Fault.j2, spec_l08Fault.j3, numsF, rd, rd_head, word_3, z3]
  · rw [hw, word_4, if_neg (by decide)]
    simp [spec_l08Fault.j1, spec_l08Fault.j2, spec_l08Fault.j3, spec_l08Fault.j4, numsF, rd, rd_head, word_4, z4]
  · rw [hw, word_5, if_neg (by decide)]
    simp [spec_l08Fault.j1, spec_l08Fault.j2, spec_l08Fault.j3, spec_l08Fault.j4, numsF, rd, rd_head, word_5, z5]
theorem faultS_end (ps : List ByteArray) (hp : 1 ≤ ps.length) (ns : List Int) (i : Int) (hi : ¬ i < (ps.length : Int)) (k : Nat) (hk : 10 < k) : (spec_l08Fault.l0 k ps ns i).isSome = true := by
  obtain ⟨k, rfl⟩ : ∃ q, k = q + 5 := ⟨k - 5, by omega⟩
  have h0 : 0 < (ps.length : Int) := by omega
  rw [spec_l08Fault.l0, if_neg hi, if_pos h0]
  have j4 : ∀ b : Bool, (b = true → ns.length = 1) → (spec_l08Fault.j4 (k + 1) ps ns b).isSome = true := by
    intro b hb
    rw [spec_l08Fault.j4, if_pos h0]
    split
    · rename_i e
      have := hb e
      rw [if_pos (by omega)]
      rfl
    · split
      · split
        · rename_i h2
          rw [if_pos (by omega), if_pos (by omega)]
          rfl
        · rfl
      · rfl
  have j3 : ∀ b : Bool, (b = true → ns.length = 2) → (spec_l08Fault.j3 (k + 2) ps ns b).isSome = true := by
    intro b hb
    rw [spec_l08Fault.j3, if_pos h0]
    split
    · rename_i e
      have := hb e
      rw [if_pos (by omega), if_pos (by omega)]
      rfl
    · split
      · exact j4 _ (fun e => by have := eq_of_beq e; omega)
      · exact j4 _ (fun e => by cases e)
  have j2 : ∀ b : Bool, (b = true → ns.length = 3) → (spec_l08Fault.j2 (k + 3) ps ns b).isSome = true := by
    intro b hb
    rw [spec_l08Fault.j2, if_pos h0]
    split
    · rename_i e
      have := hb e
      rw [if_pos (by omega), if_pos (by omega), if_pos (by omega)]
      rfl
    · split
      · exact j3 _ (fun e => by have := eq_of_beq e; omega)
      · exact j3 _ (fun e => by cases e)
  have j1 : ∀ b : Bool, (b = true → ns.length = 3) → (spec_l08Fault.j1 (k + 4) ps ns b).isSome = true := by
    intro b hb
    rw [spec_l08Fault.j1, if_pos h0]
    split
    · rename_i e
      have := hb e
      rw [if_pos (by omega), if_pos (by omega), if_pos (by omega)]
      rfl
    · split
      · exact j2 _ (fun e => by have := eq_of_beq e; omega)
      · exact j2 _ (fun e => by cases e)
  split
  · exact j1 _ (fun e => by have := eq_of_beq e; omega)
  · exact j1 _ (fun e => by cases e)
theorem faultS_any_l (ps : List ByteArray) (hp : 1 ≤ ps.length) (hl : ps.length ≤ 2000000) (d : Nat) : ∀ (k i : Nat) (ns : List Int), i + d = ps.length → ns.length ≤ i → d + 30 < k → (spec_l08Fault.l0 k ps ns (i : Int)).isSome = true := by
  induction d with
  | zero =>
    intro k i ns hi hn hk
    exact faultS_end ps hp ns _ (by omega) k (by omega)
  | succ d ih =>
    intro k i ns hi hn hk
    obtain ⟨k, rfl⟩ : ∃ q, k = q + 1 := ⟨k - 1, by omega⟩
    rw [spec_l08Fault.l0, if_pos (by omega), if_pos (by omega)]
    obtain ⟨r, hr⟩ := Option.isSome_iff_exists.1 (parse_any (rdOf ByteArray.empty ps (i : Int)) k (by omega))
    rw [hr]
    simp only [Option.bind_some]
    split
    · rw [if_pos (Nat.lt_of_le_of_lt (show ns.length ≤ 2000000 by omega) (by decide)), w64 (by omega) (by omega), show (i : Int) + 1 = ((i + 1 : Nat) : Int) by omega]
      exact ih k (i + 1) _ (by omega) (by rw [List.length_append, List.length_singleton]; omega) (by omega)
    · rfl
theorem faultS_any (s : ByteArray) (hs : s.size ≤ 1048576) (k : Nat) (hk : 3000000 < k) : ∃ r, (spec_l08Split.f k s 32).bind (spec_l08Fault.f k) = some r := by
  have e := l08Split_f s 32 hs k (by omega)
  have e2 : ((32 : UInt8).toNat : Int) = 32 := rfl
  rw [e2] at e
  rw [e, Option.bind_some]
  have hl := cutA_length 32 s.data.toList []
  have hsz : s.data.toList.length = s.size := Array.length_toList
  have hp : 1 ≤ (cutA 32 [] s.data.toList).length := List.length_pos_iff.2 (cutA_ne 32 _ [])
  refine Option.isSome_iff_exists.1 ?_
  unfold spec_l08Fault.f
  exact faultS_any_l _ (by rw [List.length_map]; exact hp) (by rw [List.length_map]; omega) (((cutA 32 [] s.data.toList).map txt).length - 1) k 1 [] (by rw [List.length_map]; omega) (by simp) (by rw [List.length_map]; omega)
theorem faultS_line (x : S40) (h : okF x) (hz : okZ x) (k : Nat) (hk : 3000000 < k) : (spec_l08Split.f k (txt (line0 x)) 32).bind (spec_l08Fault.f k) = some (x.f0, x.f1, x.f2, x.f3, true) := by
  have hlen := lineL_len h
  rw [lineL_eq, List.length_append] at hlen
  have e := l08Split_f (txt (line0 x)) 32 (by rw [txt_size]; omega) k (by rw [txt_size]; omega)
  have e2 : ((32 : UInt8).toNat : Int) = 32 := rfl
  rw [e2, txt_toList, cut_pieces x h] at e
  rw [e, Option.bind_some]
  exact faultS_x x h hz k (by omega)
theorem parseM_fv (M : Nat) : ∀ (l : List UInt8) (v : Nat), (∀ x ∈ l, 48 ≤ x.toNat ∧ x.toNat ≤ 57) → fv v l ≤ M → fv v l ≤ 2000000 → Lib.parseUintM M v l = .ok (fv v l) := by
  intro l
  induction l with
  | nil => intro v _ _ _; rw [fv_nil]; rfl
  | cons x t ih =>
    intro v hd hv hv2
    have hb := hd x List.mem_cons_self
    rw [fv_cons] at hv hv2 ⊢
    have hge := fv_ge t (10 * v + (x.toNat - 48))
    have e := ih (10 * v + (x.toNat - 48)) (fun y hy => hd y (List.mem_cons_of_mem _ hy)) hv hv2
    rw [Lib.parseUintM]
    have e1 : v * 10 + (x.toNat - 48) = 10 * v + (x.toNat - 48) := by omega
    simp only [e1]
    rw [if_pos hb, if_neg (by omega), if_neg (by omega)]
    exact e
theorem numW_itoa (n : Int) (h : okN n) : numW (txt (Lib.itoa n)) = some n := by
  obtain ⟨h0, h1⟩ := h
  have hp : Lib.parseIntB 64 (txt (Lib.itoa n)).data.toList = .ok n := by
    rw [txt_toList, itoa_nat h0]
    have hd := digs n.toNat
    have hpos := dec_pos n.toNat
    have hf := fv_dec n.toNat
    generalize Lib.decDigits n.toNat = l at *
    cases l with
    | nil => simp at hpos
    | cons c r =>
      have hc := hd c List.mem_cons_self
      rw [Lib.parseIntB_plain 64 c r (by omega) (by omega)]
      unfold Lib.parseUintB
      rw [if_neg (by simp), parseM_fv _ (c :: r) 0 hd (by rw [hf]; have : (2 : Nat) ^ 64 = 18446744073709551616 := by decide
                                                          omega) (by rw [hf]; omega), hf]
      unfold Lib.signlessC
      have : (2 : Nat) ^ (64 - 1) = 9223372036854775808 := by decide
      rw [this]
      simp only
      rw [if_neg (by omega)]
      congr 1
      omega
  rw [numW_ok hp, if_pos (by rw [txt_toList])]
theorem readN_x (x : S40) (h : okF x) : impl_readNumbers.f ((numsF x).map (fun n => txt (Lib.itoa n))) = some (numsF x, true) := by
  have hn := nums_ok h
  have hlen : (numsF x).length ≤ 3 := by unfold numsF; (repeat' split) <;> simp
  unfold impl_readNumbers.f
  rw [if_pos ⟨by rw [List.length_map]; omega, fun y hy => by
    obtain ⟨n, hm, rfl⟩ := List.mem_map.1 hy
    have := itoa_le (hn n hm)
    rw [txt_size]; omega⟩]
  have e1 : ∀ l : List Int, (∀ n ∈ l, okN n) → (l.map (fun n => txt (Lib.itoa n))).all (fun w => (numW w).isSome) = true ∧ numsW (l.map (fun n => txt (Lib.itoa n))) = l := by
    intro l
    induction l with
    | nil => intro _; exact ⟨rfl, rfl⟩
    | cons a t ih =>
      intro hl
      obtain ⟨i1, i2⟩ := ih (fun n hm => hl n (List.mem_cons_of_mem _ hm))
      have ha := numW_itoa a (hl a List.mem_cons_self)
      unfold numsW at i2 ⊢
      rw [List.map_cons, List.all_cons, i1, List.map_cons, ha, i2]
      exact ⟨rfl, rfl⟩
  obtain ⟨i1, i2⟩ := e1 _ hn
  unfold readN
  rw [if_pos i1, i2]
def ws : List ByteArray := [(⟨#[]⟩ : ByteArray), (⟨#[98, 105, 116]⟩ : ByteArray), (⟨#[100, 105, 115, 116, 117, 114, 98]⟩ : ByteArray), (⟨#[114, 101, 116, 101, 110, 116, 105, 111, 110]⟩ : ByteArray), (⟨#[98, 108, 111, 99, 107]⟩ : ByteArray), (⟨#[99, 117, 116]⟩ : ByteArray)]
theorem idx_any_l (a : ByteArray) (d : Nat) : ∀ (k i : Nat), i + d = 6 → d < k → ∃ r, slices_Index_string_string.l0 k ws a 6 (i : Int) = some r ∧ -1 ≤ r ∧ r ≤ 5 := by
  induction d with
  | zero =>
    intro k i hi hk
    obtain ⟨k, rfl⟩ : ∃ q, k = q + 1 := ⟨k - 1, by omega⟩
    exact ⟨-1, by rw [slices_Index_string_string.l0, if_neg (by omega)], by omega, by omega⟩
  | succ d ih =>
    intro k i hi hk
    obtain ⟨k, rfl⟩ : ∃ q, k = q + 1 := ⟨k - 1, by omega⟩
    rw [slices_Index_string_string.l0, if_pos (by omega), if_pos (by omega), if_pos (by show (i : Int) < 6; omega)]
    split
    · exact ⟨_, rfl, by omega, by omega⟩
    · rw [w64 (by omega) (by omega), show (i : Int) + 1 = ((i + 1 : Nat) : Int) by omega]
      exact ih k (i + 1) (by omega) (by omega)
theorem idx_any (a : ByteArray) (k : Nat) (hk : 20 < k) : ∃ r, slices_Index_string_string.f k ws a = some r ∧ -1 ≤ r ∧ r ≤ 5 := idx_any_l a 6 k 0 (by omega) (by omega)
theorem idx_hit (a : ByteArray) (j : Nat) (hj : j < 6) (hne : ∀ i : Nat, i < j → ¬ a.data.toList = (rdOf ByteArray.empty ws (i : Int)).data.toList) (he : a.data.toList = (rdOf ByteArray.empty ws (j : Int)).data.toList) (d : Nat) : ∀ (k i : Nat), i + d = j → d < k → slices_Index_string_string.l0 k ws a 6 (i : Int) = some (j : Int) := by
  induction d with
  | zero =>
    intro k i hi hk
    obtain ⟨k, rfl⟩ : ∃ q, k = q + 1 := ⟨k - 1, by omega⟩
    obtain rfl : i = j := by omega
    rw [slices_Index_string_string.l0, if_pos (by omega), if_pos (by omega), if_pos (by show (i : Int) < 6; omega), if_pos (by rw [Lib.toList_data, Lib.toList_data]; exact he)]
  | succ d ih =>
    intro k i hi hk
    obtain ⟨k, rfl⟩ : ∃ q, k = q + 1 := ⟨k - 1, by omega⟩
    rw [slices_Index_string_string.l0, if_pos (by omega), if_pos (by omega), if_pos (by show (i : Int) < 6; omega), if_neg (by rw [Lib.toList_data, Lib.toList_data]; exact hne i (by omega)), w64 (by omega) (by omega), show (i : Int) + 1 = ((i + 1 : Nat) : Int) by omega]
    exact ih k (i + 1) (by omega) (by omega)
theorem idx_word (x0 : Int) (h1 : 1 ≤ x0) (h5 : x0 ≤ 5) (k : Nat) (hk : 20 < k) : slices_Index_string_string.f k ws (wordK x0) = some x0 := by
  have key : ∀ j : Nat, j < 6 → 1 ≤ j → slices_Index_string_string.f k ws (wordK (j : Int)) = some (j : Int) := by
    intro j hj hj1
    refine idx_hit (wordK (j : Int)) j hj ?_ ?_ j k 0 (by omega) (by omega)
    · intro i hi
      have : ∀ j' : Fin 6, ∀ i' : Fin 6, i'.1 < j'.1 → ¬ (wordK (j'.1 : Int)).data.toList = (rdOf ByteArray.empty ws (i'.1 : Int)).data.toList := by decide
      exact this ⟨j, hj⟩ ⟨i, by omega⟩ hi
    · rfl
  have := key x0.toNat (by omega) (by omega)
  rwa [show ((x0.toNat : Nat) : Int) = x0 by omega] at this
theorem readF_any (x : ByteArray) (hx : x.size ≤ 1048576) (k : Nat) (hk : 100 < k) : (impl_readFault.f k x).isSome = true := by
  unfold impl_readFault.f impl_faultWords.f
  have q : (⟨#[32]⟩ : ByteArray) = ⟨#[(32 : UInt8)]⟩ := rfl
  rw [split_f x 32 hx, Option.bind_some]
  have hl := cutA_length 32 x.data.toList []
  have hsz : x.data.toList.length = x.size := Array.length_toList
  have hp : 1 ≤ (cutA 32 [] x.data.toList).length := List.length_pos_iff.2 (cutA_ne 32 _ [])
  have hpc := cutA_size 32 x.data.toList []
  have hn : impl_readNumbers.f (((cutA 32 [] x.data.toList).map txt).drop 1) = some (readN (((cutA 32 [] x.data.toList).map txt).drop 1)) := by
    unfold impl_readNumbers.f
    rw [if_pos ⟨by rw [List.length_drop, List.length_map]; omega, fun y hy => by
      obtain ⟨z, hz, rfl⟩ := List.mem_map.1 (List.mem_of_mem_drop hy)
      have := hpc z hz
      rw [txt_size]
      simp at this
      omega⟩]
  rw [if_pos (by rw [List.length_map]; omega), hn]
  simp only [Option.bind_some]
  rw [if_pos (by rw [List.length_map]; omega)]
  obtain ⟨r, hr, r0, r5⟩ := idx_any (rdOf ByteArray.empty ((cutA 32 [] x.data.toList).map txt) 0) k (by omega)
  have hr' := hr
  unfold ws at hr'
  rw [hr']
  simp only [Option.bind_some]
  generalize (readN (((cutA 32 [] x.data.toList).map txt).drop 1)) = N
  obtain ⟨k, rfl⟩ : ∃ q, k = q + 1 := ⟨k - 1, by omega⟩
  split
  · split
    · rw [impl_readFault.j0, if_pos rfl]; rfl
    · rename_i h1
      unfold impl_Fault_numbers.f
      have h5 : r = 1 ∨ r = 2 ∨ r = 3 ∨ r = 4 ∨ r = 5 := by omega
      have fin : ∀ m : List Int, (r = 3 → m.length = 2) → (r = 4 → m.length = 1) → (r = 5 → m.length = 2) → (r ≠ 3 → r ≠ 4 → r ≠ 5 → m.length = 3) → (impl_readFault.j0 (k + 1) N.1 ((N.1.length : Int) != (m.length : Int)) r 0 0 0).isSome = true := by
        intro m m3 m4 m5 mo
        rw [impl_readFault.j0]
        split
        · rfl
        · rename_i hb
          have hb2 : (N.1.length : Int) = (m.length : Int) := by simpa using hb
          split
          · have := m3 (by assumption)
            rw [if_pos (by omega), if_pos (by omega)]; rfl
          · split
            · have := m4 (by assumption)
              rw [if_pos (by omega)]; rfl
            · split
              · have := m5 (by assumption)
                rw [if_pos (by omega), if_pos (by omega)]; rfl
              · have := mo (by assumption) (by assumption) (by assumption)
                rw [if_pos (by omega), if_pos (by omega), if_pos (by omega)]; rfl
      rcases h5 with rfl | rfl | rfl | rfl | rfl
      all_goals exact fin _ (by decide) (by decide) (by decide) (by decide)
  · rw [impl_readFault.j0, if_pos rfl]; rfl
theorem readF_line (x : S40) (h : okF x) (hz : okZ x) (k : Nat) (hk : 100 < k) : impl_readFault.f k (txt (line0 x)) = some (x.f0, x.f1, x.f2, x.f3, true) := by
  have hlen := lineL_len h
  rw [lineL_eq, List.length_append] at hlen
  unfold impl_readFault.f impl_faultWords.f
  rw [split_f _ 32 (by rw [txt_size]; omega), txt_toList, cut_pieces x h]
  simp only [Option.bind_some]
  have e1 : (piecesF x).drop 1 = (numsF x).map (fun n => txt (Lib.itoa n)) := rfl
  have e2 : rdOf ByteArray.empty (piecesF x) 0 = wordK x.f0 := rfl
  have e3 := idx_word x.f0 h.1.1 h.1.2 k (by omega)
  unfold ws at e3
  rw [if_pos (by unfold piecesF; simp; omega), e1, readN_x x h, e2]
  simp only [Option.bind_some]
  rw [if_pos (by unfold piecesF; simp), e3]
  simp only [Option.bind_some, if_true]
  obtain ⟨k, rfl⟩ : ∃ q, k = q + 1 := ⟨k - 1, by omega⟩
  obtain ⟨x0, x1, x2, x3⟩ := x
  have hk5 : x0 = 1 ∨ x0 = 2 ∨ x0 = 3 ∨ x0 = 4 ∨ x0 = 5 := by have := h.1; simp only at this; omega
  obtain ⟨z3, z4, z5⟩ := hz
  simp only at z3 z4 z5 ⊢
  rcases hk5 with rfl | rfl | rfl | rfl | rfl
  all_goals simp [impl_Fault_numbers.f, impl_readFault.j0, numsF, rd, z3, z4, z5]
theorem trim_line (x : S40) : trimB (txt (lineL x)) = txt (line0 x) := by
  unfold trimB
  rw [txt_toList, lineL_eq]
  have e : Lib.trimSuffix (line0 x ++ [10]) [10] = line0 x := by
    unfold Lib.trimSuffix
    simp [Lib.hasSuffix]
  rw [e]
  rfl
theorem cut_text : ∀ (l : List S40), (∀ x ∈ l, okF x) → cutA 10 [] (textL l) = l.map line0 ++ [[]]
  | [], _ => by simp [textL, cutA]
  | x :: l, h => by
    rw [textL_cons, cutA_step 10 (line0 x) [] _ (line0_no (h x List.mem_cons_self)), List.nil_append, cut_text l (fun y hy => h y (List.mem_cons_of_mem _ hy))]
    rfl
def Said (a b c : Int) (s : ByteArray) (r : List S40 × Int) : Prop := r = ([], 10) ∨ ∃ l, r = (l, 0) ∧ okScript a b c l = true ∧ textL l = s.data.toList
theorem spec_end (a b c : Int) (s : ByteArray) (ps : List ByteArray) (acc : List S40) (i : Int) (hi : ¬ wrap64 (i + 1) < (ps.length : Int)) (k : Nat) (hk : 300 < k) : spec_ParseFaults.l0 k s ps acc i a b c = some (if okScript a b c acc = true ∧ textL acc = s.data.toList then (acc, 0) else ([], 10)) := by
  obtain ⟨k, rfl⟩ : ∃ q, k = q + 1 := ⟨k - 1, by omega⟩
  rw [spec_ParseFaults.l0, if_neg hi, script_f a b c acc k (by omega), ← ok_script]
  simp only [Option.bind_some]
  cases ho : okScript a b c acc with
  | false => simp
  | true =>
    rw [if_pos rfl, fmt_spec a b c acc ho k (by omega)]
    simp only [Option.bind_some, Lib.toList_data, txt_toList]
    by_cases hs : textL acc = s.data.toList
    · rw [if_pos hs, if_pos ⟨trivial, hs⟩]
    · rw [if_neg hs, if_neg (fun h => hs h.2)]
theorem spec_sound (a b c : Int) (s : ByteArray) (ps : List ByteArray) (hp : ps.length ≤ 2000000) (hsz : ∀ x ∈ ps, x.size ≤ 1048576) (d : Nat) : ∀ (k i : Nat) (acc : List S40), i + d + 1 = ps.length → acc.length ≤ 40 → d + 4000000 < k → ∃ r, spec_ParseFaults.l0 k s ps acc (i : Int) a b c = some r ∧ Said a b c s r := by
  induction d with
  | zero =>
    intro k i acc hi ha hk
    refine ⟨_, spec_end a b c s ps acc _ (by rw [w64 (by omega) (by omega)]; omega) k (by omega), ?_⟩
    split
    · rename_i h
      exact .inr ⟨acc, rfl, h.1, h.2⟩
    · exact .inl rfl
  | succ d ih =>
    intro k i acc hi ha hk
    obtain ⟨k, rfl⟩ : ∃ q, k = q + 1 := ⟨k - 1, by omega⟩
    have hlt : i < ps.length := by omega
    have hx : rdOf ByteArray.empty ps (i : Int) = ps[i] := by
      unfold rdOf
      rw [Int.toNat_natCast]
      simp [List.getD_eq_getElem?_getD, hlt]
    obtain ⟨r, hr⟩ := faultS_any ps[i] (hsz _ (List.getElem_mem hlt)) k (by omega)
    rw [spec_ParseFaults.l0, w64 (by omega) (by omega), if_pos (by omega), if_pos (by omega), if_pos (by omega), hx]
    cases h1 : spec_l08Split.f k ps[i] 32 with
    | none => rw [h1] at hr; cases hr
    | some t =>
      rw [h1] at hr
      simp only [Option.bind_some] at hr ⊢
      rw [hr]
      simp only [Option.bind_some]
      split
      · split
        · exact ⟨_, rfl, .inl rfl⟩
        · rw [if_pos (Nat.lt_of_le_of_lt ha (by decide)), show (i : Int) + 1 = ((i + 1 : Nat) : Int) by omega]
          exact ih k (i + 1) _ (by omega) (by rw [List.length_append, List.length_singleton]; omega) (by omega)
      · exact ⟨_, rfl, .inl rfl⟩
theorem spec_complete (a b c : Int) (l : List S40) (hs : okScript a b c l = true) (d : Nat) : ∀ (k i : Nat), i + d = l.length → d + 4000000 < k → spec_ParseFaults.l0 k (txt (textL l)) (l.map (fun x => txt (line0 x)) ++ [txt []]) (l.take i) (i : Int) a b c = some (l, 0) := by
  have ht := okScript_true hs
  induction d with
  | zero =>
    intro k i hi hk
    obtain rfl : i = l.length := by omega
    rw [spec_end a b c _ _ _ _ (by rw [w64 (by omega) (by omega), List.length_append, List.length_map, List.length_singleton]; omega) k (by omega), List.take_length, if_pos ⟨hs, by rw [txt_toList]⟩]
  | succ d ih =>
    intro k i hi hk
    obtain ⟨k, rfl⟩ : ∃ q, k = q + 1 := ⟨k - 1, by omega⟩
    have hlt : i < l.length := by omega
    have hx : rdOf ByteArray.empty (l.map (fun x => txt (line0 x)) ++ [txt []]) (i : Int) = txt (line0 l[i]) := by
      unfold rdOf
      rw [Int.toNat_natCast]
      rw [List.getD_eq_getElem?_getD, List.getElem?_append_left (by rw [List.length_map]; exact hlt), List.getElem?_map, List.getElem?_eq_getElem hlt]
      rfl
    have hm := List.getElem_mem hlt
    have hr := faultS_line l[i] (fault_okF ht.1 (ht.2.2 _ hm)) (fault_okZ (ht.2.2 _ hm)) k (by omega)
    have e := ih k (i + 1) (by omega) (by omega)
    rw [spec_ParseFaults.l0, w64 (by omega) (by omega), List.length_append, List.length_map, List.length_singleton, if_pos (by omega), if_pos (by omega), if_pos (by omega), hx]
    cases h1 : spec_l08Split.f k (txt (line0 l[i])) 32 with
    | none => rw [h1] at hr; cases hr
    | some t =>
      rw [h1] at hr
      simp only [Option.bind_some] at hr ⊢
      rw [hr]
      simp only [Option.bind_some]
      have hl40 := ht.2.1
      rw [if_pos trivial, if_neg (by rw [List.length_take]; omega), if_pos (by rw [List.length_take]; exact Nat.lt_of_le_of_lt (Nat.min_le_right _ _) (Nat.lt_of_le_of_lt hl40 (by decide))), show (i : Int) + 1 = ((i + 1 : Nat) : Int) by omega]
      rw [List.take_add_one, List.getElem?_eq_getElem hlt] at e
      exact e
theorem spec_both (a b c : Int) (hg : geoB a b c = true) (s : ByteArray) (hs : s.size ≤ 1048576) (k : Nat) (hk : 8000000 ≤ k) : (∃ r, spec_ParseFaults.f k a b c s = some r ∧ Said a b c s r) ∧ ∀ l, okScript a b c l = true → textL l = s.data.toList → spec_ParseFaults.f k a b c s = some (l, 0) := by
  have e := l08Split_f s 10 hs k (by omega)
  have e2 : ((10 : UInt8).toNat : Int) = 10 := rfl
  rw [e2] at e
  have hl := cutA_length 10 s.data.toList []
  have hsz : s.data.toList.length = s.size := Array.length_toList
  have hp : 1 ≤ (cutA 10 [] s.data.toList).length := List.length_pos_iff.2 (cutA_ne 10 _ [])
  have hu : spec_ParseFaults.f k a b c s = spec_ParseFaults.l0 k s ((cutA 10 [] s.data.toList).map txt) [] 0 a b c := by
    unfold spec_ParseFaults.f
    rw [geo_spec, hg, Option.bind_some, if_pos rfl, e, Option.bind_some]
  rw [hu]
  refine ⟨?_, fun l ho ht => ?_⟩
  · refine spec_sound a b c s _ (by rw [List.length_map]; omega) (fun x hx => ?_) ((cutA 10 [] s.data.toList).length - 1) k 0 [] (by rw [List.length_map]; omega) (by simp) (by omega)
    obtain ⟨z, hz, rfl⟩ := List.mem_map.1 hx
    have := cutA_size 10 s.data.toList [] z hz
    rw [txt_size]
    simp at this
    omega
  · have hto := okScript_true ho
    have h3 := spec_complete a b c l ho l.length k 0 (by omega) (by have := hto.2.1; omega)
    rw [ht, txt_data, List.take_zero] at h3
    rw [← ht, cut_text l (fun x hx => fault_okF hto.1 (hto.2.2 x hx)), List.map_append, List.map_map]
    exact h3
theorem readF_all (s : ByteArray) (hs : s.size ≤ 1048576) (k : Nat) (hk : 8000000 ≤ k) : ∀ x ∈ Rng.linesOf s, (readF k x).isSome = true := by
  intro x hx
  have h1 := linesF_size s.size s x hx
  unfold readF
  refine readF_any _ ?_ k (by omega)
  have h2 : (Lib.trimSuffix x.data.toList [10]).length ≤ x.data.toList.length := by
    unfold Lib.trimSuffix
    split
    · rw [List.length_take]; omega
    · exact Nat.le_refl _
  have h3 : x.data.toList.length = x.size := Array.length_toList
  show (txt _).size ≤ _
  rw [txt_size]
  omega
theorem impl_both (a b c : Int) (hg : geoB a b c = true) (s : ByteArray) (hs : s.size ≤ 1048576) (k : Nat) (hk : 8000000 ≤ k) : (∃ r, impl_ParseFaults.f k a b c s = some r ∧ Said a b c s r) ∧ ∀ l, okScript a b c l = true → textL l = s.data.toList → impl_ParseFaults.f k a b c s = some (l, 0) := by
  have hall := readF_all s hs k hk
  have hu : impl_ParseFaults.f k a b c s = some (if goodL k a b c s = true then (parseL k (Rng.linesOf s), 0) else ([], 10)) := by
    unfold impl_ParseFaults.f
    rw [if_pos ⟨hs, hall⟩, if_pos hg]
  rw [hu]
  refine ⟨⟨_, rfl, ?_⟩, fun l ho ht => ?_⟩
  · split
    · rename_i h
      unfold goodL at h
      simp only [Bool.and_eq_true, decide_eq_true_eq] at h
      exact .inr ⟨_, rfl, h.2.1, h.2.2⟩
    · exact .inl rfl
  · have hto := okScript_true ho
    have hF : ∀ x ∈ l, okF x := fun x hx => fault_okF hto.1 (hto.2.2 x hx)
    have hL : Rng.linesOf s = l.map (fun x => txt (lineL x)) := by
      rw [← lines_text l hF, ht, txt_data]
    have hr : ∀ x ∈ l, readF k (txt (lineL x)) = some (x.f0, x.f1, x.f2, x.f3, true) := by
      intro x hx
      unfold readF
      rw [trim_line]
      exact readF_line x (hF x hx) (fault_okZ (hto.2.2 x hx)) k (by omega)
    have hp : parseL k (Rng.linesOf s) = l := by
      rw [hL]
      unfold parseL
      rw [List.map_map]
      conv => rhs; rw [← List.map_id l]
      refine List.map_congr_left (fun x hx => ?_)
      show faultOf k (txt (lineL x)) = x
      unfold faultOf
      rw [hr x hx]
      rfl
    have hk2 : (Rng.linesOf s).all (okLine k) = true := by
      rw [hL, List.all_eq_true]
      intro y hy
      obtain ⟨x, hx, rfl⟩ := List.mem_map.1 hy
      unfold okLine
      rw [hr x hx]
      rfl
    have hgd : goodL k a b c s = true := by
      unfold goodL
      rw [hk2, hp, ho, ht]
      simp
    rw [if_pos hgd, hp]
theorem both (a b c : Int) (s : ByteArray) (hs : s.size ≤ 1048576) (k : Nat) (hk : 8000000 ≤ k) : ∃ r, spec_ParseFaults.f k a b c s = some r ∧ impl_ParseFaults.f k a b c s = some r ∧ r.1.length ≤ 40 := by
  cases hg : geoB a b c with
  | false =>
    refine ⟨([], 1), ?_, ?_, by simp⟩
    · unfold spec_ParseFaults.f
      rw [geo_spec, hg]
      rfl
    · unfold impl_ParseFaults.f
      rw [if_pos ⟨hs, readF_all s hs k hk⟩, if_neg (by rw [hg]; simp)]
  | true =>
    obtain ⟨⟨r, h1, h2⟩, h3⟩ := spec_both a b c hg s hs k hk
    obtain ⟨⟨q, g1, g2⟩, g3⟩ := impl_both a b c hg s hs k hk
    rcases h2 with rfl | ⟨l, rfl, ho, ht⟩
    · rcases g2 with rfl | ⟨m, rfl, mo, mt⟩
      · exact ⟨_, h1, g1, by simp⟩
      · have := h3 m mo mt
        rw [h1] at this
        simp at this
    · exact ⟨_, h1, g3 l ho ht, (okScript_true ho).2.1⟩
theorem FnExactParseFaults : laws_FnExactParseFaults.Pure := by
  intro a b c s _ _ _ _
  refine ⟨8000004, ?_⟩
  unfold laws_FnExactParseFaults.f
  by_cases hc : (s.size : Int) > 1048576
  · rw [if_pos hc]
  · rw [if_neg hc]
    obtain ⟨⟨l, e⟩, h1, h2, h3⟩ := both a b c s (by omega) 8000004 (by omega)
    obtain ⟨⟨l', e'⟩, h1', h2', h3'⟩ := both a b c s (by omega) 8000003 (by omega)
    have same : (l', e') = (l, e) := by
      have := spec_ParseFaults.mono a b c s 8000003 _ h1'
      rw [h1] at this
      exact (Option.some.inj this).symm
    rw [same] at h2'
    simp only at h3
    unfold laws_toGeometry.f
    simp only [Option.bind_some]
    rw [h1]
    simp only [Option.bind_some]
    rw [h2]
    simp only [Option.bind_some]
    rw [eqF_f l (by omega) 8000004 (by omega)]
    simp only [Option.bind_some, if_true]
    rw [laws_FnExactParseFaults.j0, if_neg (by simp)]
    rw [markF_f l (by omega) 8000003 (by omega)]
    simp only [Option.bind_some]
    rw [heldF_f l.length (by omega) 8000003 (by omega)]
    simp only [Option.bind_some]
    rw [if_neg (by omega), if_pos trivial]
    unfold laws_toGeometry.f
    simp only [Option.bind_some]
    rw [h2']
    simp only [Option.bind_some]
    rw [eqF_f l (by omega) 8000003 (by omega)]
    simp only [Option.bind_some, if_true]
    rw [laws_FnExactParseFaults.j1, if_neg (by simp), heldF_f l.length (by omega) 8000002 (by omega)]
    simp only [Option.bind_some]
    rw [if_neg (by omega), if_pos trivial]

end Go.Proofs.YtchpgjhbmeokaaaDoor.Pure
