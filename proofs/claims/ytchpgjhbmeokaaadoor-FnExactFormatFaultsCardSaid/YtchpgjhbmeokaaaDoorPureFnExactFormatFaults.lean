/- The pure statement of FnExactFormatFaults holds. No condition beyond the row's bounds. -/
import Derived.Test.YtchpgjhbmeokaaaDoorQFnExactFormatFaultsx6
import Derived.Test.YtchpgjhbmeokaaaDoorLem
import Derived.Test.YtchpgjhbmeokaaaDoorGen
import Derived.Test.YtchpgjhbmeokaaaDoorHand
namespace Go.Proofs.YtchpgjhbmeokaaaDoor.Pure
open Go.RowKit Go.Proofs.YtchpgjhbmeokaaaDoor.QFnExactFormatFaults Go.Proofs.YtchpgjhbmeokaaaDoorW.PrintWords Go.Proofs.YtchpgjhbmeokaaaDoorW.PrintLast
open Go.Proofs.YtchpgjhbmeokaaaDoor.Lem Go.Proofs.YtchpgjhbmeokaaaDoor.Gen Go.Proofs.YtchpgjhbmeokaaaDoor.Hand
def conv (x : S42) : S40 := ⟨x.f0, x.f1, x.f2, x.f3⟩
theorem to_l (l : List S42) (hl : l.length ≤ 1048576) (d : Nat) : ∀ (k i : Nat), i + d = l.length → d < k →
    laws_toFaultS.l0 k l (fillG z40 (fun j : Nat => conv (rd_T42 l (j : Int))) l.length i) (i : Int) = some (tabG (fun j : Nat => conv (rd_T42 l (j : Int))) l.length) := by
  induction d with
  | zero =>
    intro k i hi hk
    obtain ⟨k, rfl⟩ : ∃ n, k = n + 1 := ⟨k - 1, by omega⟩
    obtain rfl : i = l.length := by omega
    rw [laws_toFaultS.l0, if_neg (by omega), fillG_all]
  | succ d ih =>
    intro k i hi hk
    obtain ⟨k, rfl⟩ : ∃ n, k = n + 1 := ⟨k - 1, by omega⟩
    have t : ((i : Int)).toNat = i := by omega
    have e := ih k (i + 1) (by omega) (by omega)
    rw [← fillG_set z40 (fun j : Nat => conv (rd_T42 l (j : Int))) l.length i (by omega)] at e
    have e2 : ((i + 1 : Nat) : Int) = (i : Int) + 1 := by omega
    rw [e2] at e
    rw [laws_toFaultS.l0, if_pos (by omega), if_pos (by omega)]
    unfold laws_toFault.f
    simp only [Option.bind_some]
    rw [if_pos (by rw [fillG_length _ _ _ _ (by omega)]; omega), w64 (by omega) (by omega), t]
    exact e
theorem to_f (l : List S42) (hl : l.length ≤ 1048576) (k : Nat) (hk : l.length < k) : laws_toFaultS.f k l = some (l.map conv) := by
  unfold laws_toFaultS.f
  have t : ((l.length : Int)).toNat = l.length := by omega
  rw [if_pos (by omega), t, if_pos (by omega), ← fillG_zero z40 (fun j : Nat => conv (rd_T42 l (j : Int)))]
  have e := to_l l hl l.length k 0 (by omega) hk
  have e0 : ((0 : Nat) : Int) = 0 := rfl
  rw [e0] at e
  rw [e]
  congr 1
  exact tabG_map l z42 conv
theorem eqF_l (F : List S40) (hl : F.length ≤ 1048576) (d : Nat) : ∀ (k i : Nat), i + d = F.length → d < k → laws_eqFaultS.l0 k F F (i : Int) = some true := by
  induction d with
  | zero =>
    intro k i hi hk
    obtain ⟨k, rfl⟩ : ∃ n, k = n + 1 := ⟨k - 1, by omega⟩
    rw [laws_eqFaultS.l0, if_neg (by omega)]
  | succ d ih =>
    intro k i hi hk
    obtain ⟨k, rfl⟩ : ∃ n, k = n + 1 := ⟨k - 1, by omega⟩
    have e2 : ((i + 1 : Nat) : Int) = (i : Int) + 1 := by omega
    have e := ih k (i + 1) (by omega) (by omega)
    rw [e2] at e
    rw [laws_eqFaultS.l0, if_pos (by omega), if_pos (by omega), if_pos (by omega)]
    unfold laws_eqFault.f
    simp only [if_true, Option.bind_some]
    rw [w64 (by omega) (by omega)]
    exact e
theorem eqF_f (F : List S40) (hl : F.length ≤ 1048576) (k : Nat) (hk : F.length < k) : laws_eqFaultS.f k F F = some true := by
  unfold laws_eqFaultS.f
  rw [if_pos rfl]
  exact eqF_l F hl F.length k 0 (by omega) hk
theorem sin (x lo hi : Int) : spec_l00In.f x lo hi = some (inB x lo hi) := win x lo hi
theorem geo_spec (a b c : Int) : spec_ValidGeometry.f a b c = some (geoB a b c) := by
  unfold spec_ValidGeometry.f geoB
  rw [sin]
  simp only [Option.bind_some]
  cases inB a 2 3
  · simp
  · rw [if_pos rfl, sin]
    simp only [Option.bind_some]
    cases inB b 4 12
    · simp
    · rw [if_pos rfl]
      by_cases h : c = 8 <;> simp [h]
theorem fault_spec (k : Nat) (a b c x0 x1 x2 x3 : Int) : spec_ValidFault.f (k + 1) a b c x0 x1 x2 x3 = some (geoB a b c && faultB a b c x0 x1 x2 x3) := by
  unfold spec_ValidFault.f
  rw [geo_spec]
  simp only [Option.bind_some]
  cases hg : geoB a b c
  · simp
  · obtain ⟨g1, g2, g3, g4, g5⟩ := geo_bounds hg
    have m0 : 0 ≤ a * b := Int.mul_nonneg (by omega) (by omega)
    have m1 : a * b ≤ 3 * 12 := Int.mul_le_mul g2 g4 (by omega) (by decide)
    rw [if_pos rfl, w64 (n := a * b) (by omega) (by omega), w64 (by omega) (by omega), w64 (by omega) (by omega), sin, sin, sin]
    simp only [Option.bind_some, Bool.true_and]
    unfold faultB
    simp only
    by_cases h1 : x0 = 1
    · subst h1
      rw [if_pos rfl, spec_ValidFault.j0, if_pos (by decide), if_pos (Or.inl rfl)]
      cases inB x1 0 (a * b - 1) <;> cases inB x2 0 (c - 1) <;> rfl
    · by_cases h2 : x0 = 2
      · subst h2
        rw [if_neg h1, spec_ValidFault.j0, if_pos (by decide), if_pos (Or.inr rfl)]
        cases inB x1 0 (a * b - 1) <;> cases inB x2 0 (c - 1) <;> rfl
      · have e2 : (x0 == 2) = false := by simpa using h2
        rw [if_neg h1, spec_ValidFault.j0, e2, if_neg (by simp), if_neg (show ¬ (x0 = 1 ∨ x0 = 2) by omega)]
        by_cases h3 : x0 = 3
        · rw [if_pos h3, if_pos h3]
          cases inB x1 0 (a * b - 1) <;> cases inB x3 0 727 <;> simp
        · rw [if_neg h3, if_neg h3]
          by_cases h4 : x0 = 4
          · rw [if_pos h4, if_pos h4]
            by_cases z : x2 = 0 <;> cases inB x1 0 (a * b - 1) <;> simp [z]
          · rw [if_neg h4, if_neg h4]
            by_cases h5 : x0 = 5
            · rw [if_pos h5, if_pos h5]
              by_cases z : x1 = 0
              · rw [if_pos z, sin]
                simp only [Option.bind_some]
                cases inB x2 0 1000000
                · simp
                · rw [if_pos rfl, sin]
                  simp [z]
              · simp [z]
            · rw [if_neg h5, if_neg h5]
def fB (a b c : Int) (x : S40) : Bool := faultB a b c x.f0 x.f1 x.f2 x.f3
theorem rd_at (l : List S40) (i : Nat) (h : i < l.length) : rd_T40 l (i : Int) = l[i] := by simp [rd_T40, List.getD_eq_getElem?_getD, h]
theorem script_l (a b c : Int) (hg : geoB a b c = true) (l : List S40) (hl : l.length ≤ 1000000) (d : Nat) : ∀ (k i : Nat), i + d = l.length → d + 1 < k → spec_l08Script.l0 k l (i : Int) a b c = some ((l.drop i).all (fB a b c)) := by
  induction d with
  | zero =>
    intro k i hi hk
    obtain ⟨k, rfl⟩ : ∃ n, k = n + 1 := ⟨k - 1, by omega⟩
    rw [spec_l08Script.l0, if_neg (by omega), List.drop_eq_nil_of_le (by omega)]
    rfl
  | succ d ih =>
    intro k i hi hk
    obtain ⟨k, rfl⟩ : ∃ n, k = n + 2 := ⟨k - 2, by omega⟩
    have hlt : i < l.length := by omega
    have e := ih (k + 1) (i + 1) (by omega) (by omega)
    have e2 : ((i + 1 : Nat) : Int) = (i : Int) + 1 := by omega
    rw [e2] at e
    rw [show k + 2 = k + 1 + 1 from rfl, spec_l08Script.l0, if_pos (by omega), if_pos (by omega), fault_spec, hg, Bool.true_and, rd_at l i hlt, w64 (by omega) (by omega), e]
    simp only [Option.bind_some]
    rw [List.drop_eq_getElem_cons hlt, List.all_cons]
    have hh : faultB a b c l[i].f0 l[i].f1 l[i].f2 l[i].f3 = fB a b c l[i] := rfl
    rw [hh]
    cases fB a b c l[i] <;> rfl
def scriptB (a b c : Int) (l : List S40) : Bool := geoB a b c && (decide ((l.length : Int) ≤ 40) && l.all (fB a b c))
theorem script_f (a b c : Int) (l : List S40) (k : Nat) (hk : 50 < k) : spec_l08Script.f k a b c l = some (scriptB a b c l) := by
  unfold spec_l08Script.f scriptB
  rw [geo_spec]
  simp only [Option.bind_some]
  obtain ⟨k, rfl⟩ : ∃ n, k = n + 1 := ⟨k - 1, by omega⟩
  cases hg : geoB a b c
  · rw [if_neg (by simp), spec_l08Script.j0, if_pos rfl]
    rfl
  · rw [if_pos rfl, spec_l08Script.j0]
    by_cases c40 : (l.length : Int) > 40
    · rw [if_pos (by simpa using c40), decide_eq_false (by omega)]
      rfl
    · rw [if_neg (by simpa using c40), decide_eq_true (by omega)]
      have e := script_l a b c hg l (by omega) l.length k 0 (by omega) (by omega)
      have e0 : ((0 : Nat) : Int) = 0 := rfl
      rw [e0, List.drop_zero] at e
      rw [e]
      rfl
theorem txt_size (l : List UInt8) : (txt l).size = l.length := by simp [txt, ByteArray.size]
theorem txt_append (a b : List UInt8) : txt a ++ txt b = txt (a ++ b) := by
  apply ByteArray.ext
  rw [ByteArray.data_append]
  simp [txt]
theorem dig_f (u : Nat) (h : u < 10) : strOfNums [(wrap64 (48 + (u : Int))) % 256] = txt [UInt8.ofNat (48 + u)] := by
  have e : ((wrap64 (48 + (u : Int))) % 256).toNat = 48 + u := by
    rw [w64 (by omega) (by omega)]
    omega
  unfold strOfNums txt
  rw [List.map_cons, List.map_nil, e]
theorem num_l (d : Nat) : ∀ (u k : Nat), u < 10 ^ (d + 1) → u ≤ 2000000 → d < k → spec_l08Number.f k (u : Int) = some (txt (Lib.decDigits u)) := by
  induction d with
  | zero =>
    intro u k hu _ hk
    obtain ⟨k, rfl⟩ : ∃ q, k = q + 1 := ⟨k - 1, by omega⟩
    have h10 : u < 10 := by simpa using hu
    rw [spec_l08Number.f, if_pos (by omega), dig_f u h10, Lib.decDigits_one h10]
  | succ d ih =>
    intro u k hu hm hk
    obtain ⟨k, rfl⟩ : ∃ q, k = q + 1 := ⟨k - 1, by omega⟩
    by_cases h10 : u < 10
    · rw [spec_l08Number.f, if_pos (by omega), dig_f u h10, Lib.decDigits_one h10]
    · have hd : Int.tdiv (u : Int) 10 = ((u / 10 : Nat) : Int) := by rw [Int.tdiv_eq_ediv_of_nonneg (by omega)]; omega
      have hr : Int.tmod (u : Int) 10 = ((u % 10 : Nat) : Int) := by rw [Int.tmod_eq_emod_of_nonneg (by omega)]; omega
      have e := ih (u / 10) k (by rw [Nat.pow_succ] at hu; omega) (by omega) (by omega)
      have hl : (Lib.decDigits (u / 10)).length ≤ 20 := by rw [Lib.decDigits_length]; exact Lib.nDigits_le20 _ (by omega)
      rw [spec_l08Number.f, if_neg (by omega), hd, hr, w64 (n := ((u / 10 : Nat) : Int)) (by omega) (by omega), e]
      simp only [Option.bind_some]
      rw [dig_f (u % 10) (by omega), if_pos (by rw [txt_size, txt_size]; simp; omega), txt_append]
      have e9 : Lib.decDigits u = Lib.decDigits (u / 10) ++ [UInt8.ofNat (48 + u % 10)] := by rw [Lib.decDigits, dif_neg h10]
      rw [e9]
theorem num_f (n : Int) (h : okN n) (k : Nat) (hk : 10 < k) : spec_l08Number.f k n = some (txt (Lib.itoa n)) := by
  obtain ⟨h0, h1⟩ := h
  obtain ⟨u, rfl⟩ : ∃ u : Nat, n = (u : Int) := ⟨n.toNat, by omega⟩
  have e : Lib.itoa (u : Int) = Lib.decDigits u := by unfold Lib.itoa; rw [if_neg (by omega)]; simp
  rw [e]
  exact num_l 7 u k (by have : (10 : Nat) ^ 8 = 100000000 := by decide
                        omega) (by omega) (by omega)
def line0 (x : S40) : List UInt8 := (wordK x.f0).data.toList ++ (numsF x).flatMap numL
theorem lineL_eq (x : S40) : lineL x = line0 x ++ [10] := by
  unfold lineL line0
  rw [List.append_assoc]
theorem itoa_le {n : Int} (h : okN n) : (Lib.itoa n).length ≤ 21 := Lib.itoa_length_le n (by have := h.1; omega) (by have := h.2; omega)
theorem line_f (x : S40) (h : okF x) (k : Nat) (hk : 10 < k) : spec_l08Line.f k x.f0 x.f1 x.f2 x.f3 = some (txt (line0 x)) := by
  obtain ⟨h0, h1, h2, h3⟩ := h
  have e1 := num_f x.f1 h1 k hk
  have e2 := num_f x.f2 h2 k hk
  have e3 := num_f x.f3 h3 k hk
  have s1 := itoa_le h1
  have s2 := itoa_le h2
  have s3 := itoa_le h3
  unfold spec_l08Line.f
  rw [e1, e2, e3]
  have q1 : (⟨#[98, 105, 116, 32]⟩ : ByteArray) = txt [98, 105, 116, 32] := rfl
  have q2 : (⟨#[32]⟩ : ByteArray) = txt [32] := rfl
  have q3 : (⟨#[100, 105, 115, 116, 117, 114, 98, 32]⟩ : ByteArray) = txt [100, 105, 115, 116, 117, 114, 98, 32] := rfl
  have q4 : (⟨#[114, 101, 116, 101, 110, 116, 105, 111, 110, 32]⟩ : ByteArray) = txt [114, 101, 116, 101, 110, 116, 105, 111, 110, 32] := rfl
  have q5 : (⟨#[98, 108, 111, 99, 107, 32]⟩ : ByteArray) = txt [98, 108, 111, 99, 107, 32] := rfl
  have q6 : (⟨#[99, 117, 116, 32]⟩ : ByteArray) = txt [99, 117, 116, 32] := rfl
  rw [q1, q2, q3, q4, q5, q6]
  simp only [Option.bind_some, txt_append, txt_size, List.length_append, List.length_cons, List.length_nil]
  have hk5 : x.f0 = 1 ∨ x.f0 = 2 ∨ x.f0 = 3 ∨ x.f0 = 4 ∨ x.f0 = 5 := by omega
  unfold line0 numsF
  rcases hk5 with c | c | c | c | c
  all_goals
    rw [c]
    simp only [if_pos, show ((1 : Int) = 3) = False from by decide, show ((1 : Int) = 4) = False from by decide, show ((1 : Int) = 5) = False from by decide, show ((2 : Int) = 1) = False from by decide, show ((2 : Int) = 3) = False from by decide, show ((2 : Int) = 4) = False from by decide, show ((2 : Int) = 5) = False from by decide, show ((3 : Int) = 1) = False from by decide, show ((3 : Int) = 2) = False from by decide, show ((4 : Int) = 1) = False from by decide, show ((4 : Int) = 2) = False from by decide, show ((4 : Int) = 3) = False from by decide, show ((5 : Int) = 1) = False from by decide, show ((5 : Int) = 2) = False from by decide, show ((5 : Int) = 3) = False from by decide, show ((5 : Int) = 4) = False from by decide, if_false]
    repeat rw [if_pos (by omega)]
    congr 2
  · rw [show (wordK 1).data.toList = [98, 105, 116] from by decide]; simp [numL]
  · rw [show (wordK 2).data.toList = [100, 105, 115, 116, 117, 114, 98] from by decide]; simp [numL]
  · rw [show (wordK 3).data.toList = [114, 101, 116, 101, 110, 116, 105, 111, 110] from by decide]; simp [numL]
  · rw [show (wordK 4).data.toList = [98, 108, 111, 99, 107] from by decide]; simp [numL]
  · rw [show (wordK 5).data.toList = [99, 117, 116] from by decide]; simp [numL]
theorem ok_script (a b c : Int) (l : List S40) : okScript a b c l = scriptB a b c l := by
  unfold okScript scriptB
  congr 2
  rw [List.all_eq_not_any_not]
  rfl
theorem spec_l (a b c : Int) (m : List S40) (hs : scriptB a b c m = true) (hok : ∀ x ∈ m, okF x) (hl : m.length ≤ 40) (d : Nat) : ∀ (k i : Nat), i + d = m.length → d + 60 < k → spec_FormatFaults.l0 k m (txt (textL (m.take i))) (i : Int) a b c = some (txt (textL m)) := by
  induction d with
  | zero =>
    intro k i hi hk
    obtain ⟨k, rfl⟩ : ∃ q, k = q + 1 := ⟨k - 1, by omega⟩
    obtain rfl : i = m.length := by omega
    rw [spec_FormatFaults.l0, if_neg (by omega), List.take_length]
  | succ d ih =>
    intro k i hi hk
    obtain ⟨k, rfl⟩ : ∃ q, k = q + 1 := ⟨k - 1, by omega⟩
    have hlt : i < m.length := by omega
    have e := ih k (i + 1) (by omega) (by omega)
    have e2 : ((i + 1 : Nat) : Int) = (i : Int) + 1 := by omega
    have hb := take_text_len m (i + 1)
    have hb2 := textL_len m hok
    rw [take_text m i hlt, lineL_eq] at e hb
    rw [e2] at e
    simp only [List.length_append, List.length_cons, List.length_nil] at hb
    have hx : okF (rd_T40 m (i : Int)) := by rw [rd_getElem m i hlt]; exact hok _ (List.getElem_mem hlt)
    rw [spec_FormatFaults.l0, if_pos (by omega), script_f a b c m k (by omega), hs]
    simp only [Option.bind_some]
    rw [if_pos trivial, if_pos (by omega), line_f _ hx k (by omega)]
    simp only [Option.bind_some]
    have q : (⟨#[10]⟩ : ByteArray) = txt [10] := rfl
    rw [q, txt_append, txt_append, txt_size, txt_size, txt_size, List.length_append, if_pos (by omega), if_pos (by omega), w64 (n := (i : Int) + 1) (by omega) (by omega), List.append_assoc]
    exact e
theorem fmt_both (a b c : Int) (m : List S40) (k : Nat) (hk : 200 < k) : spec_FormatFaults.f k a b c m = impl_FormatFaults.f a b c m := by
  unfold impl_FormatFaults.f spec_FormatFaults.f
  rw [ok_script]
  cases hs : scriptB a b c m with
  | true =>
    rw [if_pos rfl]
    have h := okScript_true ((ok_script a b c m).trans hs)
    exact spec_l a b c m hs (fun x hx => fault_okF h.1 (h.2.2 x hx)) h.2.1 m.length k 0 (by omega) (by omega)
  | false =>
    rw [if_neg (by simp)]
    obtain ⟨k, rfl⟩ : ∃ q, k = q + 1 := ⟨k - 1, by omega⟩
    rw [spec_FormatFaults.l0, script_f a b c m k (by omega), hs]
    simp
theorem FnExactFormatFaults : laws_FnExactFormatFaults.Pure := by
  intro a b c l _ _ _ ⟨hl0, _⟩
  have hl : l.length ≤ 9223372036854775807 := hl0
  refine ⟨8000000, ?_⟩
  unfold laws_FnExactFormatFaults.f laws_szFaultS.f
  by_cases hc : wrap64 (1048576 - (l.length : Int)) < 0
  · rw [if_pos hc]
    rfl
  · rw [if_neg hc]
    simp only [Option.bind_some]
    rw [if_neg hc]
    have hl2 : l.length ≤ 1048576 := by
      rw [w64 (by omega) (by omega)] at hc
      omega
    unfold laws_toGeometry.f
    simp only [Option.bind_some]
    rw [to_f l hl2 8000000 (by omega)]
    simp only [Option.bind_some]
    rw [fmt_both a b c (l.map conv) 8000000 (by omega)]
    unfold impl_FormatFaults.f
    simp only [Option.bind_some, if_true]
    rw [eqF_f (l.map conv) (by rw [List.length_map]; exact hl2) 8000000 (by rw [List.length_map]; omega)]
    rfl

end Go.Proofs.YtchpgjhbmeokaaaDoor.Pure
