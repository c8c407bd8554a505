/- The pure statement of FnParity holds. No condition beyond the row's bounds. -/
import Derived.Test.YtiedhdbdiambbaaQFnParityx3
import Derived.Test.YtiedhdbdiambbaaLem
import Derived.Test.YtiedhdbdiambbaaGen
import Derived.Test.YtiedhdbdiambbaaHand
namespace Go.Proofs.Ytiedhdbdiambbaa.Pure
open Go.RowKit Go.Proofs.Ytiedhdbdiambbaa.QFnParity Go.Proofs.YtiedhdbdiambbaaW.PrintWords Go.Proofs.YtiedhdbdiambbaaW.PrintLast
open Go.Proofs.Ytiedhdbdiambbaa.Lem Go.Proofs.Ytiedhdbdiambbaa.Gen Go.Proofs.Ytiedhdbdiambbaa.Hand
theorem impl_xor (a b : ByteArray) (hb : a.size ≤ b.size) (ha : a.size ≤ 1048576) (d : Nat) : ∀ (k i : Nat), i + d = a.size → d < k →
    impl_xored.l0 k a b (fill (xf a b) a.size i) (a.size : Int) (i : Int) = some (xs a b) := by
  induction d with
  | zero =>
    intro k i hi hk
    obtain ⟨k, rfl⟩ : ∃ n, k = n + 1 := ⟨k - 1, by omega⟩
    simp only [impl_xored.l0]
    rw [if_neg (by omega)]
    have e : i = a.size := by omega
    rw [e, xs, fill_all]
  | succ d ih =>
    intro k i hi hk
    obtain ⟨k, rfl⟩ : ∃ n, k = n + 1 := ⟨k - 1, by omega⟩
    simp only [impl_xored.l0]
    have t : ((i : Int)).toNat = i := by omega
    rw [if_pos (by omega), if_pos (by omega), if_pos (by omega), if_pos (by omega), if_pos (by rw [fill_length _ _ _ (by omega)]; omega), w64 (by omega) (by omega), t]
    have e : (fill (xf a b) a.size i).set i (Go.bits .xor .u8 (bt a (i : Int)) (bt b (i : Int))) = fill (xf a b) a.size (i + 1) := fill_set (xf a b) a.size i (by omega)
    rw [e]
    exact ih k (i + 1) (by omega) (by omega)
theorem impl_xor_f (a b : ByteArray) (hb : a.size ≤ b.size) (ha : a.size ≤ 1048576) (k : Nat) (hk : a.size < k) : impl_xored.f k a b = some (xs a b) := by
  unfold impl_xored.f
  have t : ((a.size : Int)).toNat = a.size := by omega
  rw [if_pos (by omega), t, if_pos (by omega)]
  simp only [Option.bind_some]
  have h := impl_xor a b hb ha a.size k 0 (by omega) hk
  rw [fill_zero] at h
  rw [List.length_replicate]
  exact h
/-- The exclusive or of all units behind what has been summed up. -/
def sumX : ByteArray → List ByteArray → ByteArray
  | o, [] => o
  | o, u :: l => sumX (xs o u) l
theorem sum_l (l : List ByteArray) (hl : l.length ≤ 8) (s : Nat) (hs : s ≤ 256) (hu : ∀ u ∈ l, u.size = s) (d : Nat) : ∀ (k i : Nat) (o : ByteArray), i + d = l.length → o.size = s → d + 300 < k →
    impl_parityOf.l0 k o l (l.length : Int) (i : Int) = some (sumX o (l.drop i)) ∧ (sumX o (l.drop i)).size = s := by
  induction d with
  | zero =>
    intro k i o hi ho hk
    obtain ⟨k, rfl⟩ : ∃ q, k = q + 1 := ⟨k - 1, by omega⟩
    rw [impl_parityOf.l0, if_neg (by omega), List.drop_eq_nil_of_le (by omega)]
    exact ⟨rfl, ho⟩
  | succ d ih =>
    intro k i o hi ho hk
    obtain ⟨k, rfl⟩ : ∃ q, k = q + 1 := ⟨k - 1, by omega⟩
    have hlt : i < l.length := by omega
    have er : rdOf ByteArray.empty l (i : Int) = l[i] := by simp [rdOf, List.getD_eq_getElem?_getD, hlt]
    have hz := hu _ (List.getElem_mem hlt)
    obtain ⟨f, g⟩ := ih k (i + 1) (xs o l[i]) (by omega) (by rw [xs_size]; exact ho) (by omega)
    have e2 : ((i + 1 : Nat) : Int) = (i : Int) + 1 := by omega
    rw [e2] at f
    rw [List.drop_eq_getElem_cons hlt]
    refine ⟨?_, g⟩
    rw [impl_parityOf.l0, if_pos (by omega), if_pos (by omega), if_pos (by omega), er, impl_xor_f o l[i] (by omega) (by omega) k (by omega)]
    simp only [Option.bind_some]
    rw [w64 (by omega) (by omega), f]
    rfl
theorem zero_rep (n : Nat) : (⟨(Go.Lib.repeatL (⟨#[0]⟩ : ByteArray).data.toList n).toArray⟩ : ByteArray) = strOfNums (List.replicate n 0) := by
  have e : (⟨#[0]⟩ : ByteArray).data.toList = List.replicate 1 (0 : UInt8) := rfl
  rw [e, Go.Lib.repeatL_replicate]
  apply ByteArray.ext
  unfold strOfNums
  simp
/-! ### The sum does not depend on the order -/
theorem xs_swap (o u v : ByteArray) : xs (xs o u) v = xs (xs o v) u := by
  apply bt_ext
  · rw [xs_size, xs_size, xs_size, xs_size]
  · intro j hj
    rw [xs_size, xs_size] at hj
    rw [xs_bt _ _ j (by rw [xs_size]; exact hj), xs_bt _ _ j (by rw [xs_size]; exact hj)]
    unfold xf
    rw [xs_bt _ _ j hj, xs_bt _ _ j hj]
    unfold xf
    rw [xor_assoc _ _ _ (bt_range _ _) (bt_range _ _) (bt_range _ _), xor_comm (bt u _) (bt v _) (bt_range _ _) (bt_range _ _), ← xor_assoc _ _ _ (bt_range _ _) (bt_range _ _) (bt_range _ _)]
theorem sumX_perm {l m : List ByteArray} (h : l.Perm m) : ∀ o, sumX o l = sumX o m := by
  induction h with
  | nil => intro o; rfl
  | cons a _ ih => intro o; exact ih (xs o a)
  | swap a b l =>
    intro o
    show sumX (xs (xs o b) a) l = sumX (xs (xs o a) b) l
    rw [xs_swap]
  | trans _ _ i1 i2 => intro o; rw [i1, i2]
/-- Units of one stripe. -/
def OkU (l : List ByteArray) : Prop := 1 ≤ l.length ∧ l.length ≤ 8 ∧ ∃ s, s ≤ 256 ∧ ∀ u ∈ l, u.size = s
theorem OkU.perm {l m : List ByteArray} (h : l.Perm m) (hl : OkU l) : OkU m := by
  obtain ⟨h1, h2, s, h3, h4⟩ := hl
  exact ⟨by rw [← h.length_eq]; exact h1, by rw [← h.length_eq]; exact h2, s, h3, fun u hu => h4 u (h.mem_iff.2 hu)⟩
theorem first_mem {l : List ByteArray} (h : 1 ≤ l.length) : rdOf ByteArray.empty l 0 ∈ l := by
  have e : rdOf ByteArray.empty l 0 = l[0] := by simp [rdOf, List.getD_eq_getElem?_getD, show 0 < l.length by omega]
  rw [e]
  exact List.getElem_mem _
theorem ok_of {l : List ByteArray} (h : OkU l) : impl_unitsOk.f l = some true := by
  obtain ⟨h1, h2, s, h3, h4⟩ := h
  have hs := h4 _ (first_mem h1)
  unfold impl_unitsOk.f inB
  have ha : l.any (oddUnit l) = false := by
    rw [List.any_eq_false]
    intro u hu
    unfold oddUnit
    rw [hs, h4 u hu]
    simp
  rw [ha, decide_eq_true (p := (1 : Int) ≤ (l.length : Int)) (by omega), decide_eq_true (p := (l.length : Int) ≤ 8) (by omega), decide_eq_true (p := ((rdOf ByteArray.empty l 0).size : Int) ≤ 256) (by omega)]
  rfl
theorem par_sum (l : List ByteArray) (s : Nat) (h1 : 1 ≤ l.length) (h2 : l.length ≤ 8) (h3 : s ≤ 256) (h4 : ∀ u ∈ l, u.size = s) (k : Nat) (hk : 400 < k) :
    impl_parityOf.f k l (s : Int) = some (sumX (strOfNums (List.replicate s 0)) l) ∧ (sumX (strOfNums (List.replicate s 0)) l).size = s := by
  unfold impl_parityOf.f strings_Repeat.f
  have e0 : ((0 : Nat) : Int) = 0 := rfl
  have eo : (strOfNums (List.replicate s 0)).size = s := by rw [strOfNums_size, List.length_replicate]
  have one : (⟨#[0]⟩ : ByteArray).size = 1 := rfl
  obtain ⟨f, g⟩ := sum_l l h2 s h3 h4 l.length k 0 (strOfNums (List.replicate s 0)) (by omega) eo (by omega)
  rw [e0] at f
  rw [if_pos ⟨by omega, by omega, by rw [one]; omega⟩, Int.toNat_natCast, zero_rep]
  simp only [Option.bind_some]
  rw [f]
  exact ⟨by simp, g⟩
theorem del_perm (l : List ByteArray) (i : Nat) (hi : i < l.length) (p : ByteArray) : (p :: (l.take i ++ l.drop (i + 1))).Perm (l.set i p) := by
  rw [List.set_eq_take_append_cons_drop, if_pos hi]
  exact List.perm_middle.symm
theorem del_perm2 (l : List ByteArray) (p : ByteArray) : (l ++ [p]).Perm (p :: l) := List.perm_append_singleton p l
/-- What Rebuild answers: the sum of the other units and the parity. -/
theorem impl_Reb (l : List ByteArray) (p : ByteArray) (i : Nat) (hi : i < l.length) (h8 : l.length ≤ 8) (k : Nat) (hk : 500 < k) :
    OkU (l.set i p) → impl_Rebuild.f k l p i = some (sumX (strOfNums (List.replicate p.size 0)) (l.set i p), 0) := by
  have hx : impl_isIndex.f (i : Int) (l.length : Int) = some true := by
    unfold impl_isIndex.f impl_within.f
    rw [w64 (by omega) (by omega), if_pos (by omega), decide_eq_true (p := (i : Int) ≤ (l.length : Int) - 1) (by omega)]
    rfl
  have hc : slices_Clone_string_string.f l (i : Int) (wrap64 ((i : Int) + 1)) = some (l.take i ++ l.drop (i + 1)) := by
    rw [w64 (by omega) (by omega)]
    unfold slices_Clone_string_string.f
    have t1 : ((i : Int)).toNat = i := by omega
    have t2 : ((i : Int) + 1).toNat = i + 1 := by omega
    rw [if_pos ⟨by omega, by omega, by omega, by omega⟩, t1, t2]
  have hlen : (l.take i ++ l.drop (i + 1)).length = l.length - 1 := by
    rw [List.length_append, List.length_take, List.length_drop]
    omega
  have hp1 := del_perm l i hi p
  have hp2 := (del_perm2 (l.take i ++ l.drop (i + 1)) p).trans hp1
  have hlen2 : ((l.take i ++ l.drop (i + 1)) ++ [p]).length = l.length := by rw [hp2.length_eq, List.length_set]
  unfold impl_Rebuild.f
  rw [hx, hc]
  simp only [Option.bind_some, if_true]
  rw [if_neg (by omega), if_pos (by rw [hlen]; simp; omega)]
  have e1 : [p] ++ (l.take i ++ l.drop (i + 1)) = p :: (l.take i ++ l.drop (i + 1)) := rfl
  rw [e1]
  intro hok
  · rw [ok_of (hok.perm hp1.symm)]
    simp only [Option.bind_some, if_true]
    rw [if_pos (by rw [hlen]; omega)]
    obtain ⟨h1, h2, s, h3, h4⟩ := hok.perm hp2.symm
    have hs : p.size = s := h4 p (by simp)
    rw [hs, (par_sum _ s h1 h2 h3 h4 k (by omega)).1, sumX_perm hp2]
    rfl
/-! ### What the law's own functions give -/
theorem at_ok (l : List Int) (hu : ∀ x ∈ l, 0 ≤ x ∧ x ≤ 255) (i n : Int) (i0 : 0 ≤ i) (i1 : i ≤ 1000) (n0 : 1 ≤ n) (n1 : n ≤ 256) : ∃ r, laws_b10At.f l i n = some r ∧ 0 ≤ r ∧ r < n := by
  unfold laws_b10At.f
  by_cases c : n ≤ 1
  · rw [if_pos c]
    exact ⟨0, rfl, by omega, by omega⟩
  · rw [if_neg c]
    by_cases c2 : i < (l.length : Int)
    · rw [if_pos c2, if_pos i0, if_neg (by omega)]
      have hm : rd l i ∈ l := by
        have hi : i.toNat < l.length := by omega
        have e : rd l i = l[i.toNat] := by simp [rd, List.getD_eq_getElem?_getD, hi]
        rw [e]
        exact List.getElem_mem _
      have h2 := hu _ hm
      rw [w64 (by omega) (by omega), Int.tmod_eq_emod_of_nonneg h2.1]
      exact ⟨_, rfl, Int.emod_nonneg _ (by omega), Int.emod_lt_of_pos _ (by omega)⟩
    · rw [if_neg c2, if_neg (by omega), w64 (n := i * 37) (by omega) (by omega), w64 (by omega) (by omega), Int.tmod_eq_emod_of_nonneg (by omega)]
      exact ⟨_, rfl, Int.emod_nonneg _ (by omega), Int.emod_lt_of_pos _ (by omega)⟩
theorem data_l (l : List Int) (hu : ∀ x ∈ l, 0 ≤ x ∧ x ≤ 255) (a : Int) (a0 : 0 ≤ a) (a1 : a ≤ 900) (d : Nat) : ∀ (k i : Nat) (x : List Int), i + d = 9 → x.length = i → d < k → ∃ s, laws_b10Data.l0 k l a 9 x (i : Int) = some s ∧ s.size = 9 := by
  induction d with
  | zero =>
    intro k i x hi hx hk
    obtain ⟨k, rfl⟩ : ∃ q, k = q + 1 := ⟨k - 1, by omega⟩
    rw [laws_b10Data.l0, if_neg (by omega)]
    exact ⟨_, rfl, by rw [strOfNums_size]; omega⟩
  | succ d ih =>
    intro k i x hi hx hk
    obtain ⟨k, rfl⟩ : ∃ q, k = q + 1 := ⟨k - 1, by omega⟩
    rw [laws_b10Data.l0, if_pos (by omega), w64 (by omega) (by omega)]
    obtain ⟨r, e, _, _⟩ := at_ok l hu (a + (i : Int)) 256 (by omega) (by omega) (by omega) (by omega)
    rw [e]
    simp only [Option.bind_some]
    rw [if_pos (by omega), w64 (by omega) (by omega)]
    have e2 : ((i + 1 : Nat) : Int) = (i : Int) + 1 := by omega
    rw [← e2]
    exact ih k (i + 1) _ (by omega) (by simp [hx]) (by omega)
theorem data_ok (l : List Int) (hu : ∀ x ∈ l, 0 ≤ x ∧ x ≤ 255) (a : Int) (a0 : 0 ≤ a) (a1 : a ≤ 900) (k : Nat) (hk : 20 < k) : ∃ s, laws_b10Data.f k l a 9 = some s ∧ s.size = 9 := by
  unfold laws_b10Data.f
  exact data_l l hu a a0 a1 9 k 0 [] (by omega) rfl (by omega)
/-! ### The exclusive or undone -/
theorem sumX_out (l : List ByteArray) : ∀ (o u : ByteArray), sumX (xs o u) l = xs (sumX o l) u := by
  induction l with
  | nil => intro o u; rfl
  | cons v l ih =>
    intro o u
    show sumX (xs (xs o u) v) l = xs (sumX (xs o v) l) u
    rw [xs_swap, ih]
theorem sumX_size (l : List ByteArray) : ∀ (o : ByteArray), (sumX o l).size = o.size := by
  induction l with
  | nil => intro o; rfl
  | cons v l ih =>
    intro o
    show (sumX (xs o v) l).size = o.size
    rw [ih, xs_size]
theorem undo (r u : ByteArray) (h : u.size = r.size) : xs r (xs r u) = u := by
  apply bt_ext
  · rw [xs_size, h]
  · intro j hj
    rw [xs_size] at hj
    rw [xs_bt _ _ j hj]
    unfold xf
    rw [xs_bt _ _ j hj]
    unfold xf
    rw [← xor_assoc _ _ _ (bt_range _ _) (bt_range _ _) (bt_range _ _), xor_self _ (bt_range _ _), xor_zero _ (bt_range _ _)]
theorem redo (r u v : ByteArray) (h : u.size = r.size) : xs (xs r u) (xs u v) = xs r v := by
  apply bt_ext
  · rw [xs_size, xs_size, xs_size]
  · intro j hj
    rw [xs_size, xs_size] at hj
    rw [xs_bt _ _ j (by rw [xs_size]; exact hj), xs_bt _ _ j hj]
    unfold xf
    rw [xs_bt _ _ j hj, xs_bt _ _ j (by omega)]
    unfold xf
    rw [xor_assoc _ _ _ (bt_range _ _) (bt_range _ _) (xor_range _ _ (bt_range _ _) (bt_range _ _)), ← xor_assoc (bt u _) (bt u _) _ (bt_range _ _) (bt_range _ _) (bt_range _ _), xor_self _ (bt_range _ _), xor_zero _ (bt_range _ _)]
theorem set_perm (l : List ByteArray) (i : Nat) (hi : i < l.length) (p : ByteArray) : (l.set i p).Perm (p :: (l.take i ++ l.drop (i + 1))) := (del_perm l i hi p).symm
theorem own_perm (l : List ByteArray) (i : Nat) (hi : i < l.length) : l.Perm (l[i] :: (l.take i ++ l.drop (i + 1))) := by
  have h := set_perm l i hi l[i]
  rwa [List.set_getElem_self] at h
theorem sum_set (z p : ByteArray) (l : List ByteArray) (i : Nat) (hi : i < l.length) : sumX z (l.set i p) = xs (sumX z (l.take i ++ l.drop (i + 1))) p := by
  rw [sumX_perm (set_perm l i hi p)]
  exact sumX_out _ z p
theorem sum_own (z : ByteArray) (l : List ByteArray) (i : Nat) (hi : i < l.length) : sumX z l = xs (sumX z (l.take i ++ l.drop (i + 1))) l[i] := by
  rw [sumX_perm (own_perm l i hi)]
  exact sumX_out _ z l[i]
theorem nine (l : List ByteArray) (h1 : 1 ≤ l.length) (h8 : l.length ≤ 8) (hs : ∀ u ∈ l, u.size = 9) : OkU l := ⟨h1, h8, 9, by omega, hs⟩
theorem stripe (l : List ByteArray) (h1 : 1 ≤ l.length) (h8 : l.length ≤ 8) (hs : ∀ u ∈ l, u.size = 9) (k : Nat) (hk : 500 < k) : impl_ValidStripe.f k l (sumX (strOfNums (List.replicate 9 0)) l) = some true := by
  have hf := hs _ (first_mem h1)
  unfold impl_ValidStripe.f
  rw [ok_of (nine l h1 h8 hs)]
  simp only [Option.bind_some, if_true]
  rw [if_pos (by omega), hf, (par_sum l 9 h1 h8 (by omega) hs k (by omega)).1]
  simp
theorem mem_set9 (l : List ByteArray) (i : Nat) (hs : ∀ u ∈ l, u.size = 9) (p : ByteArray) (hp : p.size = 9) : ∀ u ∈ l.set i p, u.size = 9 := fun u hu => by
  rcases List.mem_or_eq_of_mem_set hu with h | h
  · exact hs u h
  · rw [h]; exact hp
theorem end_ok (l1 : List Int) (hu : ∀ x ∈ l1, 0 ≤ x ∧ x ≤ 255) (l : List ByteArray) (h1 : 1 ≤ l.length) (h8 : l.length ≤ 8) (hs : ∀ u ∈ l, u.size = 9) (k : Nat) (hk : 900 < k) :
    laws_FnParity.j1 k l1 l (sumX (strOfNums (List.replicate 9 0)) l) false = some true := by
  obtain ⟨k, rfl⟩ : ∃ q, k = q + 1 := ⟨k - 1, by omega⟩
  have hz : (strOfNums (List.replicate 9 0)).size = 9 := by rw [strOfNums_size, List.length_replicate]
  have hp : (sumX (strOfNums (List.replicate 9 0)) l).size = 9 := by rw [sumX_size, hz]
  obtain ⟨i, e1, i0, i1⟩ := at_ok l1 hu 1 (l.length : Int) (by omega) (by omega) (by omega) (by omega)
  obtain ⟨v, e2, hv⟩ := data_ok l1 hu 2 (by omega) (by omega) k (by omega)
  obtain ⟨i, rfl⟩ : ∃ q : Nat, i = q := ⟨i.toNat, by omega⟩
  have hi : i < l.length := by omega
  have t1 : ((i : Int)).toNat = i := by omega
  have er : rdOf ByteArray.empty l (i : Int) = l[i] := by simp [rdOf, List.getD_eq_getElem?_getD, hi]
  have hR : (sumX (strOfNums (List.replicate 9 0)) (l.take i ++ l.drop (i + 1))).size = 9 := by rw [sumX_size, hz]
  have hu9 : l[i].size = 9 := hs _ (List.getElem_mem hi)
  have hlen : (l.set i (⟨#[]⟩ : ByteArray)).length = l.length := List.length_set
  have hset : ∀ q : ByteArray, (l.set i (⟨#[]⟩ : ByteArray)).set i q = l.set i q := fun q => by rw [List.set_set]
  have hreb := impl_Reb (l.set i (⟨#[]⟩ : ByteArray)) (sumX (strOfNums (List.replicate 9 0)) l) i (by omega) (by omega) k (by omega)
  rw [hset, hp] at hreb
  have hreb2 := hreb (nine _ (by rw [List.length_set]; exact h1) (by rw [List.length_set]; exact h8) (mem_set9 l i hs _ hp))
  rw [sum_set _ _ l i hi, sum_own _ l i hi, undo _ _ (by rw [hu9, hR])] at hreb2
  have hst := stripe (l.set i v) (by rw [List.length_set]; exact h1) (by rw [List.length_set]; exact h8) (mem_set9 l i hs v hv) k (by omega)
  rw [sum_set _ _ l i hi] at hst
  have hup : impl_UpdateParity.f k (sumX (strOfNums (List.replicate 9 0)) l) l[i] v = some (xs (sumX (strOfNums (List.replicate 9 0)) (l.take i ++ l.drop (i + 1))) v, 0) := by
    unfold impl_UpdateParity.f
    rw [if_pos (by omega), if_pos (by omega), decide_eq_false (by omega)]
    obtain ⟨k, rfl⟩ : ∃ q, k = q + 1 := ⟨k - 1, by omega⟩
    rw [impl_UpdateParity.j0, if_neg (by simp), impl_xor_f l[i] v (by omega) (by omega) k (by omega)]
    simp only [Option.bind_some]
    rw [impl_xor_f _ _ (by rw [xs_size]; omega) (by omega) k (by omega)]
    simp only [Option.bind_some]
    rw [sum_own _ l i hi, redo _ _ _ (by rw [hu9, hR])]
  rw [sum_own _ l i hi] at hup
  rw [laws_FnParity.j1, if_neg (by simp), e1]
  simp only [Option.bind_some, List.nil_append, List.length_nil, Nat.zero_add]
  rw [if_pos (by omega), if_pos (by omega), if_pos (by omega), t1, sum_own _ l i hi, hreb2, e2]
  simp only [Option.bind_some]
  rw [if_pos (by omega), er, hup]
  simp only [Option.bind_some]
  rw [if_pos trivial, if_pos trivial, if_pos trivial, hset, hst]
  rfl
theorem loop_ok (l0 l1 : List Int) (hu0 : ∀ x ∈ l0, 0 ≤ x ∧ x ≤ 255) (hu : ∀ x ∈ l1, 0 ≤ x ∧ x ≤ 255) (d : Nat) : ∀ (k : Nat) (x : List ByteArray), x.length + d ≤ 8 → 1 ≤ x.length + d → (∀ u ∈ x, u.size = 9) → d + 1000 < k →
    laws_FnParity.l0 k l0 l1 x (d : Int) = some true := by
  induction d with
  | zero =>
    intro k x h8 h1 hs hk
    obtain ⟨k, rfl⟩ : ∃ q, k = q + 1 := ⟨k - 1, by omega⟩
    have h1' : 1 ≤ x.length := by omega
    have hf := hs _ (first_mem h1')
    have hpar : impl_ParityOf.f k x = some (sumX (strOfNums (List.replicate 9 0)) x, 0) := by
      unfold impl_ParityOf.f
      rw [ok_of (nine x h1' (by omega) hs)]
      simp only [Option.bind_some, if_true]
      rw [if_pos (by omega), hf, (par_sum x 9 h1' (by omega) (by omega) hs k (by omega)).1]
      rfl
    rw [laws_FnParity.l0, if_neg (by omega), hpar]
    simp only [Option.bind_some]
    rw [if_pos trivial, stripe x h1' (by omega) hs k (by omega)]
    simp only [Option.bind_some, Bool.not_true]
    exact end_ok l1 hu x h1' (by omega) hs k (by omega)
  | succ d ih =>
    intro k x h8 h1 hs hk
    obtain ⟨k, rfl⟩ : ∃ q, k = q + 1 := ⟨k - 1, by omega⟩
    obtain ⟨s, e, h9⟩ := data_ok l0 hu0 (10 * ((d + 1 : Nat) : Int)) (by omega) (by omega) k (by omega)
    rw [laws_FnParity.l0, if_pos (by omega), w64 (by omega) (by omega), e]
    simp only [Option.bind_some]
    rw [if_pos (by omega), w64 (by omega) (by omega)]
    have e2 : ((d + 1 : Nat) : Int) - 1 = (d : Int) := by omega
    rw [e2]
    refine ih k (x ++ [s]) (by simp; omega) (by simp; omega) (fun u hu2 => ?_) (by omega)
    rcases List.mem_append.1 hu2 with h | h
    · exact hs u h
    · rw [List.mem_singleton.1 h]; exact h9
theorem u8_of {x : Int} (h : (Lit.int .u8 x).wf = true) : 0 ≤ x ∧ x ≤ 255 := by
  have a : IntKind.u8.min = 0 := by decide
  have b : IntKind.u8.max = 255 := by decide
  simp only [Lit.wf, a, b] at h
  simpa using h
theorem FnParity : laws_FnParity.Pure := by
  intro l0 l1 hm0 _ hw0 hm1 _ hw1
  refine ⟨3000, ?_⟩
  unfold laws_FnParity.f laws_b10Long.f
  by_cases c0 : (l0.length : Int) > 1048576
  · rw [if_pos c0]
    rfl
  · rw [if_neg c0]
    simp only [Option.bind_some]
    by_cases c1 : (l1.length : Int) > 1048576
    · rw [decide_eq_true c1, if_pos rfl]
    · rw [decide_eq_false c1, if_neg (by simp)]
      obtain ⟨t, e, t0, t1⟩ := at_ok l1 (fun x hx => u8_of (hw1 x hx)) 0 8 (by omega) (by omega) (by omega) (by omega)
      rw [e]
      simp only [Option.bind_some]
      rw [w64 (by omega) (by omega)]
      obtain ⟨d, hd⟩ : ∃ d : Nat, 1 + t = d := ⟨(1 + t).toNat, by omega⟩
      rw [hd]
      exact loop_ok l0 l1 (fun x hx => u8_of (hw0 x hx)) (fun x hx => u8_of (hw1 x hx)) d 3000 [] (by simp; omega) (by simp; omega) (fun u hu => absurd hu (by simp)) (by omega)

end Go.Proofs.Ytiedhdbdiambbaa.Pure
