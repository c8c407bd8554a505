/- The pure statement of FnExactRebuild holds. No condition beyond the row's bounds. -/
import Derived.Test.YtiedhdbdiambbaaQFnExactRebuildx3
import Derived.Test.YtiedhdbdiambbaaLem
import Derived.Test.YtiedhdbdiambbaaGen
import Derived.Test.YtiedhdbdiambbaaHand
namespace Go.Proofs.Ytiedhdbdiambbaa.Pure
open Go.RowKit Go.Proofs.Ytiedhdbdiambbaa.QFnExactRebuild Go.Proofs.YtiedhdbdiambbaaW.PrintWords Go.Proofs.YtiedhdbdiambbaaW.PrintLast

open Go.Proofs.Ytiedhdbdiambbaa.Lem Go.Proofs.Ytiedhdbdiambbaa.Gen Go.Proofs.Ytiedhdbdiambbaa.Hand
theorem laws_toStringS_l (l : List ByteArray) (hl : l.length ≤ 1048576) (d : Nat) : ∀ (k i : Nat), i + d = l.length → d < k →
    laws_toStringS.l0 k l (fillG ByteArray.empty (fun j : Nat => rdOf ByteArray.empty l (j : Int)) l.length i) (i : Int) = some (tabG (fun j : Nat => rdOf ByteArray.empty l (j : Int)) l.length) := by
  induction d with
  | zero =>
    intro k i hi hk
    obtain ⟨k, rfl⟩ : ∃ n, k = n + 1 := ⟨k - 1, by omega⟩
    obtain rfl : i = l.length := by omega
    rw [laws_toStringS.l0, if_neg (by omega), fillG_all]
  | succ d ih =>
    intro k i hi hk
    obtain ⟨k, rfl⟩ : ∃ n, k = n + 1 := ⟨k - 1, by omega⟩
    have t : ((i : Int)).toNat = i := by omega
    rw [laws_toStringS.l0, if_pos (by omega), if_pos (by omega)]
    rw [if_pos (by rw [fillG_length _ _ _ _ (by omega)]; omega), w64 (by omega) (by omega)]
    have e := ih k (i + 1) (by omega) (by omega)
    rw [← fillG_set ByteArray.empty (fun j : Nat => rdOf ByteArray.empty l (j : Int)) l.length i (by omega)] at e
    have e2 : ((i + 1 : Nat) : Int) = (i : Int) + 1 := by omega
    rw [e2] at e
    rw [t]
    exact e
theorem laws_toStringS_f (l : List ByteArray) (hl : l.length ≤ 1048576) (k : Nat) (hk : l.length < k) : laws_toStringS.f k l = some (l) := by
  unfold laws_toStringS.f
  have t : ((l.length : Int)).toNat = l.length := by omega
  rw [if_pos (by omega), t, if_pos (by omega), show (⟨#[]⟩ : ByteArray) = ByteArray.empty from rfl, ← fillG_zero ByteArray.empty (fun j : Nat => rdOf ByteArray.empty l (j : Int))]
  have e := laws_toStringS_l l hl l.length k 0 (by omega) hk
  have e0 : ((0 : Nat) : Int) = 0 := rfl
  rw [e0] at e
  rw [e, show tabG (fun j : Nat => rdOf ByteArray.empty l (j : Int)) l.length = l from tabG_id l ByteArray.empty]
theorem laws_eqStringS_l (l : List ByteArray) (hl : l.length ≤ 1048576) (d : Nat) : ∀ (k i : Nat), i + d = l.length → d < k → laws_eqStringS.l0 k l l (i : Int) = some true := by
  induction d with
  | zero =>
    intro k i hi hk
    obtain ⟨k, rfl⟩ : ∃ n, k = n + 1 := ⟨k - 1, by omega⟩
    rw [laws_eqStringS.l0, if_neg (by omega)]
  | succ d ih =>
    intro k i hi hk
    obtain ⟨k, rfl⟩ : ∃ n, k = n + 1 := ⟨k - 1, by omega⟩
    rw [laws_eqStringS.l0, if_pos (by omega), if_pos (by omega), if_pos (by omega)]
    rw [if_pos rfl]
    rw [w64 (by omega) (by omega)]
    exact ih k (i + 1) (by omega) (by omega)
theorem laws_eqStringS_f (l : List ByteArray) (hl : l.length ≤ 1048576) (k : Nat) (hk : l.length < k) : laws_eqStringS.f k l l = some true := by
  unfold laws_eqStringS.f
  rw [if_pos rfl]
  exact laws_eqStringS_l l hl l.length k 0 (by omega) hk
theorem sz_str_l (l : List ByteArray) (hl : l.length ≤ 1048576) (hs : ∀ p ∈ l, p.size ≤ maxLen) (d : Nat) : ∀ (k i : Nat) (n : Int), i + d = l.length → d < k → 0 ≤ n → n ≤ 1048576 → ∃ m, laws_szStringS.l0 k l n (i : Int) = some m ∧ m ≤ n := by
  induction d with
  | zero =>
    intro k i n hi hk h0 h1
    obtain ⟨k, rfl⟩ : ∃ q, k = q + 1 := ⟨k - 1, by omega⟩
    rw [laws_szStringS.l0, if_neg (by omega)]
    exact ⟨n, rfl, by omega⟩
  | succ d ih =>
    intro k i n hi hk h0 h1
    obtain ⟨k, rfl⟩ : ∃ q, k = q + 1 := ⟨k - 1, by omega⟩
    have hlt : i < l.length := by omega
    have er : rdOf ByteArray.empty l (i : Int) = l[i] := by simp [rdOf, List.getD_eq_getElem?_getD, hlt]
    have hz := hs _ (List.getElem_mem hlt)
    simp only [maxLen] at hz
    rw [laws_szStringS.l0, if_pos (by omega), if_pos (by omega), er, w64 (n := n - (l[i].size : Int)) (by omega) (by omega)]
    by_cases c : n - (l[i].size : Int) < 0
    · rw [if_pos c]
      exact ⟨-1, rfl, by omega⟩
    · rw [if_neg c, w64 (by omega) (by omega)]
      obtain ⟨m, e, h⟩ := ih k (i + 1) (n - (l[i].size : Int)) (by omega) (by omega) (by omega) (by omega)
      have e2 : ((i + 1 : Nat) : Int) = (i : Int) + 1 := by omega
      rw [e2] at e
      exact ⟨m, e, by omega⟩
theorem sz_str (l : List ByteArray) (h : l.length ≤ maxLen) (hs : ∀ p ∈ l, p.size ≤ maxLen) (n : Int) (n0 : 0 ≤ n) (n1 : n ≤ 1048576) (k : Nat) (hk : 1048580 < k) : ∃ m, laws_szStringS.f k l n = some m ∧ m ≤ n ∧ (0 ≤ m → l.length ≤ 1048576) := by
  simp only [maxLen] at h
  unfold laws_szStringS.f
  rw [w64 (by omega) (by omega)]
  by_cases c : n - (l.length : Int) < 0
  · rw [if_pos c]
    exact ⟨-1, rfl, by omega, fun h => by omega⟩
  · rw [if_neg c]
    obtain ⟨m, e, g⟩ := sz_str_l l (by omega) hs l.length k 0 (n - (l.length : Int)) (by omega) (by omega) (by omega) (by omega)
    have e0 : ((0 : Nat) : Int) = 0 := rfl
    rw [e0] at e
    exact ⟨m, e, by omega, fun _ => by omega⟩
theorem spec_xor (a b : ByteArray) (hb : a.size ≤ b.size) (ha : a.size ≤ 1048576) (d : Nat) : ∀ (k i : Nat), i + d = a.size → d < k →
    spec_l02Xor.l0 k a b (tab (xf a b) i) (i : Int) = some (xs a b) := by
  induction d with
  | zero =>
    intro k i hi hk
    obtain ⟨k, rfl⟩ : ∃ n, k = n + 1 := ⟨k - 1, by omega⟩
    simp only [spec_l02Xor.l0]
    rw [if_neg (by omega)]
    have e : i = a.size := by omega
    rw [e, xs]
  | succ d ih =>
    intro k i hi hk
    obtain ⟨k, rfl⟩ : ∃ n, k = n + 1 := ⟨k - 1, by omega⟩
    simp only [spec_l02Xor.l0]
    rw [if_pos (by omega), if_pos (by omega), if_pos (by omega), if_pos (by rw [tab_length]; omega), w64 (by omega) (by omega)]
    have e : tab (xf a b) i ++ [Go.bits .xor .u8 (bt a (i : Int)) (bt b (i : Int))] = tab (xf a b) (i + 1) := by rw [tab_succ]; rfl
    rw [e]
    exact ih k (i + 1) (by omega) (by omega)
theorem spec_xor_f (a b : ByteArray) (hb : a.size ≤ b.size) (ha : a.size ≤ 1048576) (k : Nat) (hk : a.size < k) : spec_l02Xor.f k a b = some (xs a b) :=
  spec_xor a b hb ha a.size k 0 (by omega) hk
theorem impl_xor (a b : ByteArray) (hb : a.size ≤ b.size) (ha : a.size ≤ 1048576) (d : Nat) : ∀ (k i : Nat), i + d = a.size → d < k →
    impl_xored.l0 k a b (fill (xf a b) a.size i) (a.size : Int) (i : Int) = some (xs a b) := by
  induction d with
  | zero =>
    intro k i hi hk
    obtain ⟨k, rfl⟩ : ∃ n, k = n + 1 := ⟨k - 1, by omega⟩
    simp only [impl_xored.l0]
    rw [if_neg (by omega)]
    have e : i = a.size := by omega
    rw [e, xs, fill_all]
  | succ d ih =>
    intro k i hi hk
    obtain ⟨k, rfl⟩ : ∃ n, k = n + 1 := ⟨k - 1, by omega⟩
    simp only [impl_xored.l0]
    have t : ((i : Int)).toNat = i := by omega
    rw [if_pos (by omega), if_pos (by omega), if_pos (by omega), if_pos (by omega), if_pos (by rw [fill_length _ _ _ (by omega)]; omega), w64 (by omega) (by omega), t]
    have e : (fill (xf a b) a.size i).set i (Go.bits .xor .u8 (bt a (i : Int)) (bt b (i : Int))) = fill (xf a b) a.size (i + 1) := fill_set (xf a b) a.size i (by omega)
    rw [e]
    exact ih k (i + 1) (by omega) (by omega)
theorem impl_xor_f (a b : ByteArray) (hb : a.size ≤ b.size) (ha : a.size ≤ 1048576) (k : Nat) (hk : a.size < k) : impl_xored.f k a b = some (xs a b) := by
  unfold impl_xored.f
  have t : ((a.size : Int)).toNat = a.size := by omega
  rw [if_pos (by omega), t, if_pos (by omega)]
  simp only [Option.bind_some]
  have h := impl_xor a b hb ha a.size k 0 (by omega) hk
  rw [fill_zero] at h
  rw [List.length_replicate]
  exact h
theorem uni_l (l : List ByteArray) (hl : l.length ≤ 1048576) (hn : 0 < l.length) (d : Nat) : ∀ (k i : Nat), i + d = l.length → d < k → spec_l04Units.l0 k l (i : Int) = some (!((l.drop i).any (oddUnit l))) := by
  induction d with
  | zero =>
    intro k i hi hk
    obtain ⟨k, rfl⟩ : ∃ q, k = q + 1 := ⟨k - 1, by omega⟩
    rw [spec_l04Units.l0, if_neg (by omega), List.drop_eq_nil_of_le (by omega)]
    rfl
  | succ d ih =>
    intro k i hi hk
    obtain ⟨k, rfl⟩ : ∃ q, k = q + 1 := ⟨k - 1, by omega⟩
    have hlt : i < l.length := by omega
    have e := ih k (i + 1) (by omega) (by omega)
    have e2 : ((i + 1 : Nat) : Int) = (i : Int) + 1 := by omega
    rw [e2] at e
    have er : rdOf ByteArray.empty l (i : Int) = l[i] := by simp [rdOf, List.getD_eq_getElem?_getD, hlt]
    rw [spec_l04Units.l0, if_pos (by omega), if_pos (by omega), if_pos (by omega), er, w64 (by omega) (by omega), e, List.drop_eq_getElem_cons hlt, List.any_cons]
    unfold oddUnit
    by_cases c : (l[i].size : Int) = ((rdOf ByteArray.empty l 0).size : Int)
    · rw [if_pos c, bne_eq_false_iff_eq.mpr c, Bool.false_or]
    · rw [if_neg c, bne_iff_ne.mpr c, Bool.true_or]
      rfl
theorem uni_f (l : List ByteArray) (k : Nat) (hk : 20 < k) : spec_l04Units.f k l = impl_unitsOk.f l ∧ ∃ r, impl_unitsOk.f l = some r ∧ (r = true → (1 ≤ l.length ∧ l.length ≤ 8) ∧ (rdOf ByteArray.empty l 0).size ≤ 256 ∧ ∀ u ∈ l, u.size = (rdOf ByteArray.empty l 0).size) := by
  obtain ⟨k, rfl⟩ : ∃ q, k = q + 1 := ⟨k - 1, by omega⟩
  have s0 : spec_l04Units.j0 (k + 1) l true = some false := by rw [spec_l04Units.j0, if_pos rfl]
  unfold spec_l04Units.f impl_unitsOk.f inB
  by_cases c1 : (l.length : Int) < 1
  · rw [if_pos c1, s0, decide_eq_false (p := (1 : Int) ≤ (l.length : Int)) (by omega), Bool.false_and, Bool.false_and]
    exact ⟨rfl, false, rfl, fun h => by simp at h⟩
  · rw [if_neg c1, decide_eq_true (p := (1 : Int) ≤ (l.length : Int)) (by omega), Bool.true_and]
    by_cases c2 : (l.length : Int) > 8
    · rw [if_pos c2, s0, decide_eq_false (p := (l.length : Int) ≤ 8) (by omega), Bool.false_and]
      exact ⟨rfl, false, rfl, fun h => by simp at h⟩
    · rw [if_neg c2, if_pos (by omega), decide_eq_true (p := (l.length : Int) ≤ 8) (by omega), Bool.true_and, spec_l04Units.j0]
      by_cases c3 : ((rdOf ByteArray.empty l 0).size : Int) > 256
      · rw [decide_eq_true c3, if_pos rfl, decide_eq_false (p := ((rdOf ByteArray.empty l 0).size : Int) ≤ 256) (by omega), Bool.false_and]
        exact ⟨rfl, false, rfl, fun h => by simp at h⟩
      · rw [decide_eq_false c3, if_neg (by simp), decide_eq_true (p := ((rdOf ByteArray.empty l 0).size : Int) ≤ 256) (by omega), Bool.true_and]
        have e := uni_l l (by omega) (by omega) l.length k 0 (by omega) (by omega)
        have e0 : ((0 : Nat) : Int) = 0 := rfl
        rw [e0, List.drop_zero] at e
        rw [e]
        refine ⟨rfl, _, rfl, fun h => ⟨⟨by omega, by omega⟩, by omega, fun u hu => ?_⟩⟩
        have h2 : ∀ u ∈ l, oddUnit l u = false := by simpa using h
        have h3 := h2 u hu
        unfold oddUnit at h3
        have h4 := bne_eq_false_iff_eq.mp h3
        omega
/-- The exclusive or of all units behind what has been summed up. -/
def sumX : ByteArray → List ByteArray → ByteArray
  | o, [] => o
  | o, u :: l => sumX (xs o u) l
theorem sum_l (l : List ByteArray) (hl : l.length ≤ 8) (s : Nat) (hs : s ≤ 256) (hu : ∀ u ∈ l, u.size = s) (d : Nat) : ∀ (k i : Nat) (o : ByteArray), i + d = l.length → o.size = s → d + 300 < k →
    spec_l04Sum.l0 k l o (i : Int) = some (sumX o (l.drop i)) ∧ impl_parityOf.l0 k o l (l.length : Int) (i : Int) = some (sumX o (l.drop i)) ∧ (sumX o (l.drop i)).size = s := by
  induction d with
  | zero =>
    intro k i o hi ho hk
    obtain ⟨k, rfl⟩ : ∃ q, k = q + 1 := ⟨k - 1, by omega⟩
    rw [spec_l04Sum.l0, if_neg (by omega), impl_parityOf.l0, if_neg (by omega), List.drop_eq_nil_of_le (by omega)]
    exact ⟨rfl, rfl, ho⟩
  | succ d ih =>
    intro k i o hi ho hk
    obtain ⟨k, rfl⟩ : ∃ q, k = q + 1 := ⟨k - 1, by omega⟩
    have hlt : i < l.length := by omega
    have er : rdOf ByteArray.empty l (i : Int) = l[i] := by simp [rdOf, List.getD_eq_getElem?_getD, hlt]
    have hz := hu _ (List.getElem_mem hlt)
    obtain ⟨e, f, g⟩ := ih k (i + 1) (xs o l[i]) (by omega) (by rw [xs_size]; exact ho) (by omega)
    have e2 : ((i + 1 : Nat) : Int) = (i : Int) + 1 := by omega
    rw [e2] at e f
    rw [List.drop_eq_getElem_cons hlt]
    refine ⟨?_, ?_, g⟩
    · rw [spec_l04Sum.l0, if_pos (by omega), if_pos (by omega), er, spec_xor_f o l[i] (by omega) (by omega) k (by omega)]
      simp only [Option.bind_some]
      rw [w64 (by omega) (by omega), e]
      rfl
    · rw [impl_parityOf.l0, if_pos (by omega), if_pos (by omega), if_pos (by omega), er, impl_xor_f o l[i] (by omega) (by omega) k (by omega)]
      simp only [Option.bind_some]
      rw [w64 (by omega) (by omega), f]
      rfl
theorem zero_rep (n : Nat) : (⟨(Go.Lib.repeatL (⟨#[0]⟩ : ByteArray).data.toList n).toArray⟩ : ByteArray) = strOfNums (List.replicate n 0) := by
  have e : (⟨#[0]⟩ : ByteArray).data.toList = List.replicate 1 (0 : UInt8) := rfl
  rw [e, Go.Lib.repeatL_replicate]
  apply ByteArray.ext
  unfold strOfNums
  simp
theorem sum_f (l : List ByteArray) (h0 : 1 ≤ l.length) (hl : l.length ≤ 8) (hs : (rdOf ByteArray.empty l 0).size ≤ 256) (hu : ∀ u ∈ l, u.size = (rdOf ByteArray.empty l 0).size) (k : Nat) (hk : 400 < k) :
    ∃ r, spec_l04Sum.f k l = some r ∧ impl_parityOf.f k l ((rdOf ByteArray.empty l 0).size : Int) = some r ∧ r.size = (rdOf ByteArray.empty l 0).size := by
  unfold spec_l04Sum.f impl_parityOf.f strings_Repeat.f
  generalize hz : (rdOf ByteArray.empty l 0).size = s at *
  have e0 : ((0 : Nat) : Int) = 0 := rfl
  have eo : (strOfNums (List.replicate s 0)).size = s := by rw [strOfNums_size, List.length_replicate]
  obtain ⟨e, f, g⟩ := sum_l l hl s hs hu l.length k 0 (strOfNums (List.replicate s 0)) (by omega) eo (by omega)
  rw [e0] at e f
  have one : (⟨#[0]⟩ : ByteArray).size = 1 := rfl
  rw [if_pos (by omega), if_pos (by omega), if_pos (by omega), Int.toNat_natCast, e, if_pos ⟨by omega, by omega, by rw [one]; omega⟩, zero_rep]
  simp only [Option.bind_some]
  rw [f]
  exact ⟨_, rfl, rfl, g⟩
/-! ### The sum does not depend on the order -/
theorem xs_swap (o u v : ByteArray) : xs (xs o u) v = xs (xs o v) u := by
  apply bt_ext
  · rw [xs_size, xs_size, xs_size, xs_size]
  · intro j hj
    rw [xs_size, xs_size] at hj
    rw [xs_bt _ _ j (by rw [xs_size]; exact hj), xs_bt _ _ j (by rw [xs_size]; exact hj)]
    unfold xf
    rw [xs_bt _ _ j hj, xs_bt _ _ j hj]
    unfold xf
    rw [xor_assoc _ _ _ (bt_range _ _) (bt_range _ _) (bt_range _ _), xor_comm (bt u _) (bt v _) (bt_range _ _) (bt_range _ _), ← xor_assoc _ _ _ (bt_range _ _) (bt_range _ _) (bt_range _ _)]
theorem sumX_perm {l m : List ByteArray} (h : l.Perm m) : ∀ o, sumX o l = sumX o m := by
  induction h with
  | nil => intro o; rfl
  | cons a _ ih => intro o; exact ih (xs o a)
  | swap a b l =>
    intro o
    show sumX (xs (xs o b) a) l = sumX (xs (xs o a) b) l
    rw [xs_swap]
  | trans _ _ i1 i2 => intro o; rw [i1, i2]
/-- Units of one stripe. -/
def OkU (l : List ByteArray) : Prop := 1 ≤ l.length ∧ l.length ≤ 8 ∧ ∃ s, s ≤ 256 ∧ ∀ u ∈ l, u.size = s
theorem OkU.perm {l m : List ByteArray} (h : l.Perm m) (hl : OkU l) : OkU m := by
  obtain ⟨h1, h2, s, h3, h4⟩ := hl
  exact ⟨by rw [← h.length_eq]; exact h1, by rw [← h.length_eq]; exact h2, s, h3, fun u hu => h4 u (h.mem_iff.2 hu)⟩
theorem first_mem {l : List ByteArray} (h : 1 ≤ l.length) : rdOf ByteArray.empty l 0 ∈ l := by
  have e : rdOf ByteArray.empty l 0 = l[0] := by simp [rdOf, List.getD_eq_getElem?_getD, show 0 < l.length by omega]
  rw [e]
  exact List.getElem_mem _
theorem ok_of {l : List ByteArray} (h : OkU l) : impl_unitsOk.f l = some true := by
  obtain ⟨h1, h2, s, h3, h4⟩ := h
  have hs := h4 _ (first_mem h1)
  unfold impl_unitsOk.f inB
  have ha : l.any (oddUnit l) = false := by
    rw [List.any_eq_false]
    intro u hu
    unfold oddUnit
    rw [hs, h4 u hu]
    simp
  rw [ha, decide_eq_true (p := (1 : Int) ≤ (l.length : Int)) (by omega), decide_eq_true (p := (l.length : Int) ≤ 8) (by omega), decide_eq_true (p := ((rdOf ByteArray.empty l 0).size : Int) ≤ 256) (by omega)]
  rfl
theorem ok_iff (l : List ByteArray) : (impl_unitsOk.f l = some true ∧ OkU l) ∨ (impl_unitsOk.f l = some false ∧ ¬ OkU l) := by
  obtain ⟨_, r, e, h⟩ := uni_f l 30 (by omega)
  cases r with
  | true =>
    obtain ⟨⟨h1, h2⟩, h3, h4⟩ := h rfl
    exact .inl ⟨e, h1, h2, _, h3, h4⟩
  | false => exact .inr ⟨e, fun hk => by rw [ok_of hk] at e; exact absurd e (by simp)⟩
theorem par_sum (l : List ByteArray) (s : Nat) (h1 : 1 ≤ l.length) (h2 : l.length ≤ 8) (h3 : s ≤ 256) (h4 : ∀ u ∈ l, u.size = s) (k : Nat) (hk : 400 < k) :
    impl_parityOf.f k l (s : Int) = some (sumX (strOfNums (List.replicate s 0)) l) ∧ (sumX (strOfNums (List.replicate s 0)) l).size = s := by
  unfold impl_parityOf.f strings_Repeat.f
  have e0 : ((0 : Nat) : Int) = 0 := rfl
  have eo : (strOfNums (List.replicate s 0)).size = s := by rw [strOfNums_size, List.length_replicate]
  have one : (⟨#[0]⟩ : ByteArray).size = 1 := rfl
  obtain ⟨_, f, g⟩ := sum_l l h2 s h3 h4 l.length k 0 (strOfNums (List.replicate s 0)) (by omega) eo (by omega)
  rw [e0] at f
  rw [if_pos ⟨by omega, by omega, by rw [one]; omega⟩, Int.toNat_natCast, zero_rep]
  simp only [Option.bind_some]
  rw [f]
  exact ⟨by simp, g⟩
theorem del_perm (l : List ByteArray) (i : Nat) (hi : i < l.length) (p : ByteArray) : (p :: (l.take i ++ l.drop (i + 1))).Perm (l.set i p) := by
  rw [List.set_eq_take_append_cons_drop, if_pos hi]
  exact List.perm_middle.symm
theorem del_perm2 (l : List ByteArray) (p : ByteArray) : (l ++ [p]).Perm (p :: l) := List.perm_append_singleton p l
/-- What Rebuild answers: the sum of the other units and the parity. -/
theorem impl_Reb (l : List ByteArray) (p : ByteArray) (i : Nat) (hi : i < l.length) (h8 : l.length ≤ 8) (k : Nat) (hk : 500 < k) :
    (OkU (l.set i p) → impl_Rebuild.f k l p i = some (sumX (strOfNums (List.replicate p.size 0)) (l.set i p), 0)) ∧ (¬ OkU (l.set i p) → impl_Rebuild.f k l p i = some ((⟨#[]⟩ : ByteArray), 1)) := by
  have hx : impl_isIndex.f (i : Int) (l.length : Int) = some true := by
    unfold impl_isIndex.f impl_within.f
    rw [w64 (by omega) (by omega), if_pos (by omega), decide_eq_true (p := (i : Int) ≤ (l.length : Int) - 1) (by omega)]
    rfl
  have hc : slices_Clone_string_string.f l (i : Int) (wrap64 ((i : Int) + 1)) = some (l.take i ++ l.drop (i + 1)) := by
    rw [w64 (by omega) (by omega)]
    unfold slices_Clone_string_string.f
    have t1 : ((i : Int)).toNat = i := by omega
    have t2 : ((i : Int) + 1).toNat = i + 1 := by omega
    rw [if_pos ⟨by omega, by omega, by omega, by omega⟩, t1, t2]
  have hlen : (l.take i ++ l.drop (i + 1)).length = l.length - 1 := by
    rw [List.length_append, List.length_take, List.length_drop]
    omega
  have hp1 := del_perm l i hi p
  have hp2 := (del_perm2 (l.take i ++ l.drop (i + 1)) p).trans hp1
  have hlen2 : ((l.take i ++ l.drop (i + 1)) ++ [p]).length = l.length := by rw [hp2.length_eq, List.length_set]
  unfold impl_Rebuild.f
  rw [hx, hc]
  simp only [Option.bind_some, if_true]
  rw [if_neg (by omega), if_pos (by rw [hlen]; simp; omega)]
  have e1 : [p] ++ (l.take i ++ l.drop (i + 1)) = p :: (l.take i ++ l.drop (i + 1)) := rfl
  rw [e1]
  refine ⟨fun hok => ?_, fun hno => ?_⟩
  · rw [ok_of (hok.perm hp1.symm)]
    simp only [Option.bind_some, if_true]
    rw [if_pos (by rw [hlen]; omega)]
    obtain ⟨h1, h2, s, h3, h4⟩ := hok.perm hp2.symm
    have hs : p.size = s := h4 p (by simp)
    rw [hs, (par_sum _ s h1 h2 h3 h4 k (by omega)).1, sumX_perm hp2]
    rfl
  · rcases ok_iff (p :: (l.take i ++ l.drop (i + 1))) with ⟨_, hk⟩ | ⟨e, _⟩
    · exact absurd (hk.perm hp1) hno
    · rw [e]
      rfl
theorem spec_Reb (l : List ByteArray) (p : ByteArray) (i : Nat) (hi : i < l.length) (h8 : l.length ≤ 8) (k : Nat) (hk : 500 < k) :
    (OkU (l.set i p) → spec_Rebuild.f k l p i = some (sumX (strOfNums (List.replicate p.size 0)) (l.set i p), 0)) ∧ (¬ OkU (l.set i p) → spec_Rebuild.f k l p i = some ((⟨#[]⟩ : ByteArray), 1)) := by
  have hx : spec_l00In.f (i : Int) 0 (wrap64 ((l.length : Int) - 1)) = some true := by
    unfold spec_l00In.f
    rw [w64 (by omega) (by omega), if_pos (by omega), decide_eq_true (p := (i : Int) ≤ (l.length : Int) - 1) (by omega)]
  have t1 : ((i : Int)).toNat = i := by omega
  unfold spec_Rebuild.f
  rw [hx]
  simp only [Option.bind_some, if_true]
  rw [if_neg (by omega)]
  simp only [List.nil_append, List.length_nil, Nat.zero_add]
  rw [if_pos (by omega), if_pos (by omega), if_pos (by omega), t1, (uni_f (l.set i p) k (by omega)).1]
  refine ⟨fun hok => ?_, fun hno => ?_⟩
  · rw [ok_of hok]
    simp only [Option.bind_some, if_true]
    obtain ⟨h1, h2, s, h3, h4⟩ := hok
    have hs : p.size = s := h4 p (List.mem_set hi p)
    have hf := h4 _ (first_mem h1)
    have eo : (strOfNums (List.replicate s 0)).size = s := by rw [strOfNums_size, List.length_replicate]
    obtain ⟨e, _, _⟩ := sum_l (l.set i p) h2 s h3 h4 (l.set i p).length k 0 (strOfNums (List.replicate s 0)) (by omega) eo (by omega)
    unfold spec_l04Sum.f
    have e0 : ((0 : Nat) : Int) = 0 := rfl
    rw [e0] at e
    rw [if_pos (by omega), if_pos (by omega), if_pos (by omega), Int.toNat_natCast, hf, hs, e]
    rfl
  · rcases ok_iff (l.set i p) with ⟨_, hk⟩ | ⟨e, _⟩
    · exact absurd hk hno
    · rw [e]
      rfl
theorem FnExactRebuild : laws_FnExactRebuild.Pure := by
  intro l p a2 h hp ha
  refine ⟨3000000, ?_⟩
  unfold laws_FnExactRebuild.f
  by_cases c0 : (p.size : Int) > 1048576
  · rw [if_pos c0]
  · rw [if_neg c0]
    obtain ⟨m, e1, h1, g1⟩ := sz_str l h.1 h.2 1048576 (by omega) (by omega) 3000000 (by omega)
    rw [e1]
    simp only [Option.bind_some]
    by_cases c : m < 0
    · rw [if_pos c]
    · rw [if_neg c]
      have g2 := g1 (by omega)
      rw [laws_toStringS_f l g2 3000000 (by omega)]
      simp only [Option.bind_some]
      obtain ⟨z, z1, z2⟩ : ∃ z, spec_Rebuild.f 3000000 l p a2 = some z ∧ impl_Rebuild.f 3000000 l p a2 = some z := by
        by_cases ci : 0 ≤ a2 ∧ a2 < (l.length : Int)
        · obtain ⟨i, rfl⟩ : ∃ i : Nat, a2 = i := ⟨a2.toNat, by omega⟩
          have hi : i < l.length := by omega
          by_cases c8 : l.length ≤ 8
          · by_cases hok : OkU (l.set i p)
            · exact ⟨_, (spec_Reb l p i hi c8 3000000 (by omega)).1 hok, (impl_Reb l p i hi c8 3000000 (by omega)).1 hok⟩
            · exact ⟨_, (spec_Reb l p i hi c8 3000000 (by omega)).2 hok, (impl_Reb l p i hi c8 3000000 (by omega)).2 hok⟩
          · refine ⟨((⟨#[]⟩ : ByteArray), 1), ?_, ?_⟩
            · have hx : spec_l00In.f (i : Int) 0 (wrap64 ((l.length : Int) - 1)) = some true := by
                unfold spec_l00In.f
                rw [w64 (by omega) (by omega), if_pos (by omega), decide_eq_true (p := (i : Int) ≤ (l.length : Int) - 1) (by omega)]
              unfold spec_Rebuild.f
              rw [hx]
              simp only [Option.bind_some, if_true]
              rw [if_pos (by omega)]
            · have hx : impl_isIndex.f (i : Int) (l.length : Int) = some true := by
                unfold impl_isIndex.f impl_within.f
                rw [w64 (by omega) (by omega), if_pos (by omega), decide_eq_true (p := (i : Int) ≤ (l.length : Int) - 1) (by omega)]
                rfl
              have hc : slices_Clone_string_string.f l (i : Int) (wrap64 ((i : Int) + 1)) = some (l.take i ++ l.drop (i + 1)) := by
                rw [w64 (by omega) (by omega)]
                unfold slices_Clone_string_string.f
                have t1 : ((i : Int)).toNat = i := by omega
                have t2 : ((i : Int) + 1).toNat = i + 1 := by omega
                rw [if_pos ⟨by omega, by omega, by omega, by omega⟩, t1, t2]
              unfold impl_Rebuild.f
              rw [hx, hc]
              simp only [Option.bind_some, if_true]
              rw [if_pos (by omega)]
        · refine ⟨((⟨#[]⟩ : ByteArray), 2), ?_, ?_⟩
          · have hx : spec_l00In.f a2 0 (wrap64 ((l.length : Int) - 1)) = some false := by
              unfold spec_l00In.f
              rw [w64 (by omega) (by omega)]
              by_cases c1 : a2 ≥ 0
              · rw [if_pos c1, decide_eq_false (p := a2 ≤ (l.length : Int) - 1) (by omega)]
              · rw [if_neg c1]
            unfold spec_Rebuild.f
            rw [hx]
            simp
          · have hx : impl_isIndex.f a2 (l.length : Int) = some false := by
              unfold impl_isIndex.f impl_within.f
              rw [w64 (by omega) (by omega)]
              by_cases c1 : a2 ≥ 0
              · rw [if_pos c1, decide_eq_false (p := a2 ≤ (l.length : Int) - 1) (by omega)]
                rfl
              · rw [if_neg c1]
                rfl
            unfold impl_Rebuild.f
            rw [hx]
            simp
      rw [z1]
      simp only [Option.bind_some]
      rw [z2]
      simp only [Option.bind_some]
      rw [if_pos trivial, show (z.2 != z.2) = false by simp, show (3000000 : Nat) = 2999999 + 1 from rfl, laws_FnExactRebuild.j0, if_neg (by simp), laws_toStringS_f l g2 2999999 (by omega)]
      simp only [Option.bind_some]
      rw [laws_eqStringS_f l g2 2999999 (by omega)]
      rfl

end Go.Proofs.Ytiedhdbdiambbaa.Pure
