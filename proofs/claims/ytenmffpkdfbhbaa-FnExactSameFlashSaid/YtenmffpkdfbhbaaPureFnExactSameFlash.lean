/- The pure statement of FnExactSameFlash holds. No condition beyond the row's bounds. -/
import Derived.Test.YtenmffpkdfbhbaaQFnExactSameFlashx6
import Derived.Test.YtenmffpkdfbhbaaLem
import Derived.Test.YtenmffpkdfbhbaaGen
import Derived.Test.YtenmffpkdfbhbaaHand
namespace Go.Proofs.Ytenmffpkdfbhbaa.Pure
open Go.RowKit Go.Proofs.Ytenmffpkdfbhbaa.QFnExactSameFlash Go.Proofs.YtenmffpkdfbhbaaW.PrintWords Go.Proofs.YtenmffpkdfbhbaaW.PrintLast

open Go.Proofs.Ytenmffpkdfbhbaa.Lem Go.Proofs.Ytenmffpkdfbhbaa.Gen Go.Proofs.Ytenmffpkdfbhbaa.Hand
theorem laws_toStringS_l (l : List ByteArray) (hl : l.length ≤ 1048576) (d : Nat) : ∀ (k i : Nat), i + d = l.length → d < k →
    laws_toStringS.l0 k l (fillG ByteArray.empty (fun j : Nat => rdOf ByteArray.empty l (j : Int)) l.length i) (i : Int) = some (tabG (fun j : Nat => rdOf ByteArray.empty l (j : Int)) l.length) := by
  induction d with
  | zero =>
    intro k i hi hk
    obtain ⟨k, rfl⟩ : ∃ n, k = n + 1 := ⟨k - 1, by omega⟩
    obtain rfl : i = l.length := by omega
    rw [laws_toStringS.l0, if_neg (by omega), fillG_all]
  | succ d ih =>
    intro k i hi hk
    obtain ⟨k, rfl⟩ : ∃ n, k = n + 1 := ⟨k - 1, by omega⟩
    have t : ((i : Int)).toNat = i := by omega
    rw [laws_toStringS.l0, if_pos (by omega), if_pos (by omega)]
    rw [if_pos (by rw [fillG_length _ _ _ _ (by omega)]; omega), w64 (by omega) (by omega)]
    have e := ih k (i + 1) (by omega) (by omega)
    rw [← fillG_set ByteArray.empty (fun j : Nat => rdOf ByteArray.empty l (j : Int)) l.length i (by omega)] at e
    have e2 : ((i + 1 : Nat) : Int) = (i : Int) + 1 := by omega
    rw [e2] at e
    rw [t]
    exact e
theorem laws_toStringS_f (l : List ByteArray) (hl : l.length ≤ 1048576) (k : Nat) (hk : l.length < k) : laws_toStringS.f k l = some (l) := by
  unfold laws_toStringS.f
  have t : ((l.length : Int)).toNat = l.length := by omega
  rw [if_pos (by omega), t, if_pos (by omega), show (⟨#[]⟩ : ByteArray) = ByteArray.empty from rfl, ← fillG_zero ByteArray.empty (fun j : Nat => rdOf ByteArray.empty l (j : Int))]
  have e := laws_toStringS_l l hl l.length k 0 (by omega) hk
  have e0 : ((0 : Nat) : Int) = 0 := rfl
  rw [e0] at e
  rw [e, show tabG (fun j : Nat => rdOf ByteArray.empty l (j : Int)) l.length = l from tabG_id l ByteArray.empty]
theorem laws_eqStringS_l (l : List ByteArray) (hl : l.length ≤ 1048576) (d : Nat) : ∀ (k i : Nat), i + d = l.length → d < k → laws_eqStringS.l0 k l l (i : Int) = some true := by
  induction d with
  | zero =>
    intro k i hi hk
    obtain ⟨k, rfl⟩ : ∃ n, k = n + 1 := ⟨k - 1, by omega⟩
    rw [laws_eqStringS.l0, if_neg (by omega)]
  | succ d ih =>
    intro k i hi hk
    obtain ⟨k, rfl⟩ : ∃ n, k = n + 1 := ⟨k - 1, by omega⟩
    rw [laws_eqStringS.l0, if_pos (by omega), if_pos (by omega), if_pos (by omega)]
    rw [if_pos rfl]
    rw [w64 (by omega) (by omega)]
    exact ih k (i + 1) (by omega) (by omega)
theorem laws_eqStringS_f (l : List ByteArray) (hl : l.length ≤ 1048576) (k : Nat) (hk : l.length < k) : laws_eqStringS.f k l l = some true := by
  unfold laws_eqStringS.f
  rw [if_pos rfl]
  exact laws_eqStringS_l l hl l.length k 0 (by omega) hk

theorem sz_str_l (l : List ByteArray) (hl : l.length ≤ 1048576) (hs : ∀ p ∈ l, p.size ≤ maxLen) (d : Nat) : ∀ (k i : Nat) (n : Int), i + d = l.length → d < k → 0 ≤ n → n ≤ 1048576 → ∃ m, laws_szStringS.l0 k l n (i : Int) = some m ∧ m ≤ n := by
  induction d with
  | zero =>
    intro k i n hi hk h0 h1
    obtain ⟨k, rfl⟩ : ∃ q, k = q + 1 := ⟨k - 1, by omega⟩
    rw [laws_szStringS.l0, if_neg (by omega)]
    exact ⟨n, rfl, by omega⟩
  | succ d ih =>
    intro k i n hi hk h0 h1
    obtain ⟨k, rfl⟩ : ∃ q, k = q + 1 := ⟨k - 1, by omega⟩
    have hlt : i < l.length := by omega
    have er : rdOf ByteArray.empty l (i : Int) = l[i] := by simp [rdOf, List.getD_eq_getElem?_getD, hlt]
    have hz := hs _ (List.getElem_mem hlt)
    simp only [maxLen] at hz
    rw [laws_szStringS.l0, if_pos (by omega), if_pos (by omega), er, w64 (n := n - (l[i].size : Int)) (by omega) (by omega)]
    by_cases c : n - (l[i].size : Int) < 0
    · rw [if_pos c]
      exact ⟨-1, rfl, by omega⟩
    · rw [if_neg c, w64 (by omega) (by omega)]
      obtain ⟨m, e, h⟩ := ih k (i + 1) (n - (l[i].size : Int)) (by omega) (by omega) (by omega) (by omega)
      have e2 : ((i + 1 : Nat) : Int) = (i : Int) + 1 := by omega
      rw [e2] at e
      exact ⟨m, e, by omega⟩
theorem sz_str (l : List ByteArray) (h : l.length ≤ maxLen) (hs : ∀ p ∈ l, p.size ≤ maxLen) (n : Int) (n0 : 0 ≤ n) (n1 : n ≤ 1048576) (k : Nat) (hk : 1048580 < k) : ∃ m, laws_szStringS.f k l n = some m ∧ m ≤ n ∧ (0 ≤ m → l.length ≤ 1048576) := by
  simp only [maxLen] at h
  unfold laws_szStringS.f
  rw [w64 (by omega) (by omega)]
  by_cases c : n - (l.length : Int) < 0
  · rw [if_pos c]
    exact ⟨-1, rfl, by omega, fun h => by omega⟩
  · rw [if_neg c]
    obtain ⟨m, e, g⟩ := sz_str_l l (by omega) hs l.length k 0 (n - (l.length : Int)) (by omega) (by omega) (by omega) (by omega)
    have e0 : ((0 : Nat) : Int) = 0 := rfl
    rw [e0] at e
    exact ⟨m, e, by omega, fun _ => by omega⟩
def okB (x : S146) : Prop := x.f3.length ≤ maxLen ∧ ∀ p ∈ x.f3, p.size ≤ maxLen
theorem sz_blk_l (l : List S146) (hl : l.length ≤ 1048576) (hs : ∀ x ∈ l, okB x) (d : Nat) : ∀ (k i : Nat) (n : Int), i + d = l.length → d + 1048580 < k → 0 ≤ n → n ≤ 1048576 →
    ∃ m, laws_szBlockS.l0 k l n (i : Int) = some m ∧ m ≤ n ∧ (0 ≤ m → ∀ x ∈ l.drop i, x.f3.length ≤ 1048576) := by
  induction d with
  | zero =>
    intro k i n hi hk h0 h1
    obtain ⟨k, rfl⟩ : ∃ q, k = q + 1 := ⟨k - 1, by omega⟩
    rw [laws_szBlockS.l0, if_neg (by omega), List.drop_eq_nil_of_le (by omega)]
    exact ⟨n, rfl, by omega, fun _ x hx => by simp at hx⟩
  | succ d ih =>
    intro k i n hi hk h0 h1
    obtain ⟨k, rfl⟩ : ∃ q, k = q + 1 := ⟨k - 1, by omega⟩
    have hlt : i < l.length := by omega
    have er : rd_T146 l (i : Int) = l[i] := by simp [rd_T146, List.getD_eq_getElem?_getD, hlt]
    have hz := hs _ (List.getElem_mem hlt)
    obtain ⟨m, e, g1, g2⟩ := sz_str l[i].f3 hz.1 hz.2 n h0 h1 k (by omega)
    rw [laws_szBlockS.l0, if_pos (by omega), if_pos (by omega), er]
    unfold laws_szBlock.f
    rw [e]
    simp only [Option.bind_some]
    by_cases c : m < 0
    · rw [if_pos c]
      simp only [Option.bind_some]
      rw [if_pos (by omega)]
      exact ⟨-1, rfl, by omega, fun h => by omega⟩
    · rw [if_neg c]
      simp only [Option.bind_some]
      rw [if_neg c, w64 (by omega) (by omega)]
      obtain ⟨m2, f, h2, h3⟩ := ih k (i + 1) m (by omega) (by omega) (by omega) (by omega)
      have e2 : ((i + 1 : Nat) : Int) = (i : Int) + 1 := by omega
      rw [e2] at f
      refine ⟨m2, f, by omega, fun h x hx => ?_⟩
      rw [List.drop_eq_getElem_cons hlt, List.mem_cons] at hx
      rcases hx with rfl | hx
      · exact g2 (by omega)
      · exact h3 h x hx
theorem sz_blk (l : List S146) (h : l.length ≤ maxLen) (hs : ∀ x ∈ l, okB x) (n : Int) (n0 : 0 ≤ n) (n1 : n ≤ 1048576) (k : Nat) (hk : 3000000 < k) : ∃ m, laws_szBlockS.f k l n = some m ∧ m ≤ n ∧ (0 ≤ m → l.length ≤ 1048576 ∧ ∀ x ∈ l, x.f3.length ≤ 1048576) := by
  simp only [maxLen] at h
  unfold laws_szBlockS.f
  rw [w64 (by omega) (by omega)]
  by_cases c : n - (l.length : Int) < 0
  · rw [if_pos c]
    exact ⟨-1, rfl, by omega, fun h => by omega⟩
  · rw [if_neg c]
    obtain ⟨m, e, g, g2⟩ := sz_blk_l l (by omega) hs l.length k 0 (n - (l.length : Int)) (by omega) (by omega) (by omega) (by omega)
    have e0 : ((0 : Nat) : Int) = 0 := rfl
    rw [e0] at e
    exact ⟨m, e, by omega, fun h => ⟨by omega, g2 h⟩⟩
def cvB (x : S146) : S110 := ⟨x.f0, x.f1, x.f2, x.f3⟩
theorem to_blk_l (l : List S146) (hl : l.length ≤ 1048576) (hs : ∀ x ∈ l, x.f3.length ≤ 1048576) (d : Nat) : ∀ (k i : Nat), i + d = l.length → d + 1048580 < k →
    laws_toBlockS.l0 k l (fillG z110 (fun j : Nat => cvB (rd_T146 l (j : Int))) l.length i) (i : Int) = some (tabG (fun j : Nat => cvB (rd_T146 l (j : Int))) l.length) := by
  induction d with
  | zero =>
    intro k i hi hk
    obtain ⟨k, rfl⟩ : ∃ n, k = n + 1 := ⟨k - 1, by omega⟩
    obtain rfl : i = l.length := by omega
    rw [laws_toBlockS.l0, if_neg (by omega), fillG_all]
  | succ d ih =>
    intro k i hi hk
    obtain ⟨k, rfl⟩ : ∃ n, k = n + 1 := ⟨k - 1, by omega⟩
    have t : ((i : Int)).toNat = i := by omega
    have hlt : i < l.length := by omega
    have er : rd_T146 l (i : Int) = l[i] := by simp [rd_T146, List.getD_eq_getElem?_getD, hlt]
    have hz := hs _ (List.getElem_mem hlt)
    rw [laws_toBlockS.l0, if_pos (by omega), if_pos (by omega)]
    unfold laws_toBlock.f
    rw [er, laws_toStringS_f _ hz k (by omega)]
    simp only [Option.bind_some]
    rw [if_pos (by rw [fillG_length _ _ _ _ (by omega)]; omega), w64 (by omega) (by omega)]
    have e := ih k (i + 1) (by omega) (by omega)
    rw [← fillG_set z110 (fun j : Nat => cvB (rd_T146 l (j : Int))) l.length i (by omega), er] at e
    have e2 : ((i + 1 : Nat) : Int) = (i : Int) + 1 := by omega
    rw [e2] at e
    rw [t]
    exact e
theorem to_blk (l : List S146) (hl : l.length ≤ 1048576) (hs : ∀ x ∈ l, x.f3.length ≤ 1048576) (k : Nat) (hk : 3000000 < k) : laws_toBlockS.f k l = some (l.map cvB) := by
  unfold laws_toBlockS.f
  have t : ((l.length : Int)).toNat = l.length := by omega
  rw [if_pos (by omega), t, if_pos (by omega), ← fillG_zero z110 (fun j : Nat => cvB (rd_T146 l (j : Int)))]
  have e := to_blk_l l hl hs l.length k 0 (by omega) (by omega)
  have e0 : ((0 : Nat) : Int) = 0 := rfl
  rw [e0] at e
  rw [e, show tabG (fun j : Nat => cvB (rd_T146 l (j : Int))) l.length = l.map cvB from tabG_map l z146 cvB]
theorem eq_blk_l (l : List S110) (hl : l.length ≤ 1048576) (hs : ∀ x ∈ l, x.f3.length ≤ 1048576) (d : Nat) : ∀ (k i : Nat), i + d = l.length → d + 1048580 < k → laws_eqBlockS.l0 k l l (i : Int) = some true := by
  induction d with
  | zero =>
    intro k i hi hk
    obtain ⟨k, rfl⟩ : ∃ n, k = n + 1 := ⟨k - 1, by omega⟩
    rw [laws_eqBlockS.l0, if_neg (by omega)]
  | succ d ih =>
    intro k i hi hk
    obtain ⟨k, rfl⟩ : ∃ n, k = n + 1 := ⟨k - 1, by omega⟩
    have hlt : i < l.length := by omega
    have er : rd_T110 l (i : Int) = l[i] := by simp [rd_T110, List.getD_eq_getElem?_getD, hlt]
    have hz := hs _ (List.getElem_mem hlt)
    have e := ih k (i + 1) (by omega) (by omega)
    have e2 : ((i + 1 : Nat) : Int) = (i : Int) + 1 := by omega
    rw [e2] at e
    rw [laws_eqBlockS.l0, if_pos (by omega), if_pos (by omega), if_pos (by omega), er]
    unfold laws_eqBlock.f
    rw [if_pos rfl, if_pos rfl, if_neg (by simp), laws_eqStringS_f _ hz k (by omega)]
    simp only [Option.bind_some, if_true]
    rw [w64 (by omega) (by omega)]
    exact e
theorem eq_blk (l : List S110) (hl : l.length ≤ 1048576) (hs : ∀ x ∈ l, x.f3.length ≤ 1048576) (k : Nat) (hk : 3000000 < k) : laws_eqBlockS.f k l l = some true := by
  unfold laws_eqBlockS.f
  rw [if_pos rfl]
  exact eq_blk_l l hl hs l.length k 0 (by omega) (by omega)
theorem cv_len (l : List S146) (hl : l.length ≤ 1048576) (hs : ∀ x ∈ l, x.f3.length ≤ 1048576) : (l.map cvB).length ≤ 1048576 ∧ ∀ x ∈ l.map cvB, x.f3.length ≤ 1048576 := by
  refine ⟨by rw [List.length_map]; exact hl, fun x hx => ?_⟩
  obtain ⟨y, hy, rfl⟩ := List.mem_map.1 hx
  exact hs y hy
theorem same_str (x0 x1 : Int) (x2 : Bool) (y0 y1 : Int) (y2 : Bool) (a b : List ByteArray) (hab : a.length = b.length) (ha : a.length ≤ 1048576) (d : Nat) : ∀ (k k' i : Nat), i + d = a.length → d < k → d < k' →
    ∃ r, spec_l06SameBlock.l0 k (i : Int) x0 x1 x2 a y0 y1 y2 b = some r ∧ slices_Equal_string_string.l0 k' a b (a.length : Int) (i : Int) = some r := by
  induction d with
  | zero =>
    intro k k' i hi hk hk'
    obtain ⟨k, rfl⟩ : ∃ n, k = n + 1 := ⟨k - 1, by omega⟩
    obtain ⟨k', rfl⟩ : ∃ n, k' = n + 1 := ⟨k' - 1, by omega⟩
    refine ⟨true, ?_, ?_⟩
    · rw [spec_l06SameBlock.l0, if_neg (by omega)]
    · rw [slices_Equal_string_string.l0, if_neg (by omega)]
  | succ d ih =>
    intro k k' i hi hk hk'
    obtain ⟨k, rfl⟩ : ∃ n, k = n + 1 := ⟨k - 1, by omega⟩
    obtain ⟨k', rfl⟩ : ∃ n, k' = n + 1 := ⟨k' - 1, by omega⟩
    obtain ⟨r, e, f⟩ := ih k k' (i + 1) (by omega) (by omega) (by omega)
    have e2 : ((i + 1 : Nat) : Int) = (i : Int) + 1 := by omega
    rw [e2] at e f
    by_cases c : (rdOf ByteArray.empty a (i : Int)).toList = (rdOf ByteArray.empty b (i : Int)).toList
    · refine ⟨r, ?_, ?_⟩
      · rw [spec_l06SameBlock.l0, if_pos (by omega), if_pos (by omega), if_pos (by omega), if_pos c, w64 (by omega) (by omega), e]
      · rw [slices_Equal_string_string.l0, if_pos (by omega), if_pos (by omega), if_pos (by omega), if_pos (by omega), if_pos c, w64 (by omega) (by omega), f]
    · refine ⟨false, ?_, ?_⟩
      · rw [spec_l06SameBlock.l0, if_pos (by omega), if_pos (by omega), if_pos (by omega), if_neg c]
      · rw [slices_Equal_string_string.l0, if_pos (by omega), if_pos (by omega), if_pos (by omega), if_pos (by omega), if_neg c]
theorem same_blk (x y : S110) (hx : x.f3.length ≤ 1048576) (k k' : Nat) (hk : 1048600 < k) (hk' : 1048600 < k') :
    ∃ r, spec_l06SameBlock.f k x.f0 x.f1 x.f2 x.f3 y.f0 y.f1 y.f2 y.f3 = some r ∧ impl_sameBlock.f k' x.f0 x.f1 x.f2 x.f3 y.f0 y.f1 y.f2 y.f3 = some r := by
  obtain ⟨k, rfl⟩ : ∃ n, k = n + 1 := ⟨k - 1, by omega⟩
  have s0 : spec_l06SameBlock.j0 (k + 1) true x.f0 x.f1 x.f2 x.f3 y.f0 y.f1 y.f2 y.f3 = some false := by rw [spec_l06SameBlock.j0, if_pos rfl]
  have F : ∃ r : Bool, (some false : Option Bool) = some r ∧ (some false : Option Bool) = some r := ⟨false, rfl, rfl⟩
  unfold spec_l06SameBlock.f impl_sameBlock.f
  rw [s0]
  by_cases c0 : x.f0 = y.f0
  · rw [if_pos c0, if_pos c0]
    by_cases c1 : x.f1 = y.f1
    · rw [if_pos c1, if_pos c1]
      by_cases c2 : x.f2 = y.f2
      · rw [if_neg (by simp [c2]), if_pos (by simp [c2]), spec_l06SameBlock.j0]
        unfold slices_Equal_string_string.f
        by_cases c3 : x.f3.length = y.f3.length
        · obtain ⟨r, e, f⟩ := same_str x.f0 x.f1 x.f2 y.f0 y.f1 y.f2 x.f3 y.f3 c3 hx x.f3.length k k' 0 (by omega) (by omega) (by omega)
          have e0 : ((0 : Nat) : Int) = 0 := rfl
          rw [e0] at e f
          rw [if_neg (by simp [c3]), if_pos (by omega), e, f]
          exact ⟨r, rfl, rfl⟩
        · have c4 : ((x.f3.length : Int) != (y.f3.length : Int)) = true := bne_iff_ne.mpr (by omega)
          rw [if_pos c4, if_neg (by omega)]
          exact F
      · rw [if_pos (by simpa using c2), if_neg (by simpa using c2)]
        exact F
    · rw [if_neg c1, if_neg c1]
      exact F
  · rw [if_neg c0, if_neg c0]
    exact F
theorem same_bl (a0 a1 a2 : Int) (a : List S110) (a4 a5 : Int) (a6 : Bool) (a7 : Int) (b0 b1 b2 : Int) (b : List S110) (b4 b5 : Int) (b6 : Bool) (b7 : Int) (hab : a.length = b.length) (ha : a.length ≤ 1048576) (hs : ∀ x ∈ a, x.f3.length ≤ 1048576) (d : Nat) : ∀ (k k' i : Nat), i + d = a.length → d + 1048610 < k → d + 1048610 < k' →
    ∃ r, spec_SameFlash.l0 k (i : Int) a0 a1 a2 a a4 a5 a6 a7 b0 b1 b2 b b4 b5 b6 b7 = some r ∧ impl_Block.l0 k' b a (a.length : Int) (i : Int) = some r := by
  induction d with
  | zero =>
    intro k k' i hi hk hk'
    obtain ⟨k, rfl⟩ : ∃ n, k = n + 1 := ⟨k - 1, by omega⟩
    obtain ⟨k', rfl⟩ : ∃ n, k' = n + 1 := ⟨k' - 1, by omega⟩
    refine ⟨true, ?_, ?_⟩
    · rw [spec_SameFlash.l0, if_neg (by omega)]
    · rw [impl_Block.l0, if_neg (by omega)]
  | succ d ih =>
    intro k k' i hi hk hk'
    obtain ⟨k, rfl⟩ : ∃ n, k = n + 1 := ⟨k - 1, by omega⟩
    obtain ⟨k', rfl⟩ : ∃ n, k' = n + 1 := ⟨k' - 1, by omega⟩
    obtain ⟨r, e, f⟩ := ih k k' (i + 1) (by omega) (by omega) (by omega)
    have e2 : ((i + 1 : Nat) : Int) = (i : Int) + 1 := by omega
    rw [e2] at e f
    have hlt : i < a.length := by omega
    have er : rd_T110 a (i : Int) = a[i] := by simp [rd_T110, List.getD_eq_getElem?_getD, hlt]
    have hz := hs _ (List.getElem_mem hlt)
    obtain ⟨q, q1, q2⟩ := same_blk a[i] (rd_T110 b (i : Int)) hz k k' (by omega) (by omega)
    have p1 : spec_SameFlash.l0 (k + 1) (i : Int) a0 a1 a2 a a4 a5 a6 a7 b0 b1 b2 b b4 b5 b6 b7 = if q = true then some r else some false := by
      rw [spec_SameFlash.l0, if_pos (by omega), if_pos (by omega), if_pos (by omega), er, q1]
      simp only [Option.bind_some]
      rw [w64 (by omega) (by omega), e]
    have p2 : impl_Block.l0 (k' + 1) b a (a.length : Int) (i : Int) = if q = true then some r else some false := by
      rw [impl_Block.l0, if_pos (by omega), if_pos (by omega), if_pos (by omega), if_pos (by omega), er, q2]
      simp only [Option.bind_some]
      rw [w64 (by omega) (by omega), f]
    rw [p1, p2]
    cases q
    · exact ⟨false, rfl, rfl⟩
    · exact ⟨r, rfl, rfl⟩
theorem same_fl (a0 a1 a2 : Int) (a : List S110) (a4 a5 : Int) (a6 : Bool) (a7 : Int) (b0 b1 b2 : Int) (b : List S110) (b4 b5 : Int) (b6 : Bool) (b7 : Int) (ha : a.length ≤ 1048576) (hs : ∀ x ∈ a, x.f3.length ≤ 1048576) (k : Nat) (hk : 3000000 < k) :
    ∃ r, spec_SameFlash.f k a0 a1 a2 a a4 a5 a6 a7 b0 b1 b2 b b4 b5 b6 b7 = some r ∧ impl_SameFlash.f k a0 a1 a2 a a4 a5 a6 a7 b0 b1 b2 b b4 b5 b6 b7 = some r := by
  obtain ⟨k, rfl⟩ : ∃ n, k = n + 1 := ⟨k - 1, by omega⟩
  have s0 : spec_SameFlash.j0 (k + 1) true a0 a1 a2 a a4 a5 a6 a7 b0 b1 b2 b b4 b5 b6 b7 = some false := by rw [spec_SameFlash.j0, if_pos rfl]
  have F : ∃ r : Bool, (some false : Option Bool) = some r ∧ (some false : Option Bool) = some r := ⟨false, rfl, rfl⟩
  unfold spec_SameFlash.f impl_SameFlash.f impl_Block.f
  rw [s0]
  by_cases c0 : (a0 == b0 && (a1 == b1 && (a2 == b2))) = true
  · have c0' : ¬ (!(a0 == b0) || (!(a1 == b1) || (!(a2 == b2)))) = true := by
      simp only [Bool.and_eq_true] at c0
      simp [c0.1, c0.2.1, c0.2.2]
    rw [if_neg c0', if_pos c0]
    by_cases c1 : (a.length : Int) = (b.length : Int)
    · obtain ⟨r, e, f⟩ := same_bl a0 a1 a2 a a4 a5 a6 a7 b0 b1 b2 b b4 b5 b6 b7 (by omega) ha hs a.length k (k + 1) 0 (by omega) (by omega) (by omega)
      have e0 : ((0 : Nat) : Int) = 0 := rfl
      rw [e0] at e f
      rw [if_pos c1, if_pos c1, f]
      simp only [Option.bind_some]
      by_cases c2 : a4 = b4
      · rw [if_pos c2, if_pos c2]
        by_cases c3 : a5 = b5
        · rw [if_pos c3, if_pos c3]
          by_cases c4 : a6 = b6
          · rw [if_neg (by simp [c4]), if_pos (show (a6 == b6) = true by simp [c4]), spec_SameFlash.j0, e]
            by_cases c5 : a7 = b7
            · rw [if_neg (by simp [c5]), beq_iff_eq.mpr c5]
              cases r
              · exact F
              · exact ⟨true, rfl, rfl⟩
            · have c6 : (a7 == b7) = false := beq_eq_false_iff_ne.mpr c5
              rw [if_pos (bne_iff_ne.mpr c5), c6]
              cases r
              · exact F
              · exact F
          · rw [if_pos (bne_iff_ne.mpr c4), if_neg (show ¬ (a6 == b6) = true by simpa using c4)]
            cases r
            · exact F
            · exact F
        · rw [if_neg c3, if_neg c3]
          cases r
          · exact F
          · exact F
      · rw [if_neg c2, if_neg c2]
        cases r
        · exact F
        · exact F
    · rw [if_neg c1, if_neg c1]
      exact F
  · have c0' : (!(a0 == b0) || (!(a1 == b1) || (!(a2 == b2)))) = true := by
      cases h0 : (a0 == b0) <;> cases h1 : (a1 == b1) <;> cases h2 : (a2 == b2) <;> first | rfl | (exfalso; rw [h0, h1, h2] at c0; exact c0 rfl)
    rw [if_pos c0', if_neg c0]
    exact F
theorem FnExactSameFlash : laws_FnExactSameFlash.Pure := by
  intro a0 a1 a2 a a4 a5 a6 a7 b0 b1 b2 b b4 b5 b6 b7 _ _ _ ha _ _ _ _ _ _ hb _ _ _
  have oa : ∀ x ∈ a, okB x := fun x hx => ⟨(ha.2 x hx).2.2.2.1, (ha.2 x hx).2.2.2.2⟩
  have ob : ∀ x ∈ b, okB x := fun x hx => ⟨(hb.2 x hx).2.2.2.1, (hb.2 x hx).2.2.2.2⟩
  refine ⟨4000000, ?_⟩
  unfold laws_FnExactSameFlash.f laws_szFlash.f laws_toFlash.f laws_toGeometry.f laws_eqFlash.f laws_eqGeometry.f
  obtain ⟨m, e1, h1, g1⟩ := sz_blk a ha.1 oa 1048576 (by omega) (by omega) 4000000 (by omega)
  rw [e1]
  simp only [Option.bind_some]
  by_cases c : m < 0
  · rw [if_pos c]
    simp only [Option.bind_some]
    rw [if_pos (by omega)]
  · rw [if_neg c]
    simp only [Option.bind_some]
    rw [if_neg c]
    obtain ⟨m2, e2, h2, g2⟩ := sz_blk b hb.1 ob m (by omega) (by omega) 4000000 (by omega)
    rw [e2]
    simp only [Option.bind_some]
    by_cases c2 : m2 < 0
    · rw [if_pos c2]
      simp only [Option.bind_some]
      rw [if_pos (by omega)]
    · rw [if_neg c2]
      simp only [Option.bind_some]
      rw [if_neg c2]
      obtain ⟨u1, u2⟩ := g1 (by omega)
      obtain ⟨v1, v2⟩ := g2 (by omega)
      obtain ⟨y1, y2⟩ := cv_len a u1 u2
      obtain ⟨z1, z2⟩ := cv_len b v1 v2
      obtain ⟨r, s1, s2⟩ := same_fl a0 a1 a2 (a.map cvB) a4 a5 a6 a7 b0 b1 b2 (b.map cvB) b4 b5 b6 b7 y1 y2 4000000 (by omega)
      rw [to_blk a u1 u2 4000000 (by omega), to_blk b v1 v2 4000000 (by omega)]
      simp only [Option.bind_some]
      rw [s1, s2]
      simp only [Option.bind_some]
      rw [if_neg (by simp), eq_blk _ y1 y2 4000000 (by omega), eq_blk _ z1 z2 4000000 (by omega)]
      simp

end Go.Proofs.Ytenmffpkdfbhbaa.Pure
