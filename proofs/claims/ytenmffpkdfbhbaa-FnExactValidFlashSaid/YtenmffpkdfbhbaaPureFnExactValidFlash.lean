/- The pure statement of FnExactValidFlash holds. No condition beyond the row's bounds. -/
import Derived.Test.YtenmffpkdfbhbaaQFnExactValidFlashx7
import Derived.Test.YtenmffpkdfbhbaaLem
import Derived.Test.YtenmffpkdfbhbaaGen
import Derived.Test.YtenmffpkdfbhbaaHand
namespace Go.Proofs.Ytenmffpkdfbhbaa.Pure
open Go.RowKit Go.Proofs.Ytenmffpkdfbhbaa.QFnExactValidFlash Go.Proofs.YtenmffpkdfbhbaaW.PrintWords Go.Proofs.YtenmffpkdfbhbaaW.PrintLast

open Go.Proofs.Ytenmffpkdfbhbaa.Lem Go.Proofs.Ytenmffpkdfbhbaa.Gen Go.Proofs.Ytenmffpkdfbhbaa.Hand
theorem laws_toStringS_l (l : List ByteArray) (hl : l.length ≤ 1048576) (d : Nat) : ∀ (k i : Nat), i + d = l.length → d < k →
    laws_toStringS.l0 k l (fillG ByteArray.empty (fun j : Nat => rdOf ByteArray.empty l (j : Int)) l.length i) (i : Int) = some (tabG (fun j : Nat => rdOf ByteArray.empty l (j : Int)) l.length) := by
  induction d with
  | zero =>
    intro k i hi hk
    obtain ⟨k, rfl⟩ : ∃ n, k = n + 1 := ⟨k - 1, by omega⟩
    obtain rfl : i = l.length := by omega
    rw [laws_toStringS.l0, if_neg (by omega), fillG_all]
  | succ d ih =>
    intro k i hi hk
    obtain ⟨k, rfl⟩ : ∃ n, k = n + 1 := ⟨k - 1, by omega⟩
    have t : ((i : Int)).toNat = i := by omega
    rw [laws_toStringS.l0, if_pos (by omega), if_pos (by omega)]
    rw [if_pos (by rw [fillG_length _ _ _ _ (by omega)]; omega), w64 (by omega) (by omega)]
    have e := ih k (i + 1) (by omega) (by omega)
    rw [← fillG_set ByteArray.empty (fun j : Nat => rdOf ByteArray.empty l (j : Int)) l.length i (by omega)] at e
    have e2 : ((i + 1 : Nat) : Int) = (i : Int) + 1 := by omega
    rw [e2] at e
    rw [t]
    exact e
theorem laws_toStringS_f (l : List ByteArray) (hl : l.length ≤ 1048576) (k : Nat) (hk : l.length < k) : laws_toStringS.f k l = some (l) := by
  unfold laws_toStringS.f
  have t : ((l.length : Int)).toNat = l.length := by omega
  rw [if_pos (by omega), t, if_pos (by omega), show (⟨#[]⟩ : ByteArray) = ByteArray.empty from rfl, ← fillG_zero ByteArray.empty (fun j : Nat => rdOf ByteArray.empty l (j : Int))]
  have e := laws_toStringS_l l hl l.length k 0 (by omega) hk
  have e0 : ((0 : Nat) : Int) = 0 := rfl
  rw [e0] at e
  rw [e, show tabG (fun j : Nat => rdOf ByteArray.empty l (j : Int)) l.length = l from tabG_id l ByteArray.empty]
theorem laws_eqStringS_l (l : List ByteArray) (hl : l.length ≤ 1048576) (d : Nat) : ∀ (k i : Nat), i + d = l.length → d < k → laws_eqStringS.l0 k l l (i : Int) = some true := by
  induction d with
  | zero =>
    intro k i hi hk
    obtain ⟨k, rfl⟩ : ∃ n, k = n + 1 := ⟨k - 1, by omega⟩
    rw [laws_eqStringS.l0, if_neg (by omega)]
  | succ d ih =>
    intro k i hi hk
    obtain ⟨k, rfl⟩ : ∃ n, k = n + 1 := ⟨k - 1, by omega⟩
    rw [laws_eqStringS.l0, if_pos (by omega), if_pos (by omega), if_pos (by omega)]
    rw [if_pos rfl]
    rw [w64 (by omega) (by omega)]
    exact ih k (i + 1) (by omega) (by omega)
theorem laws_eqStringS_f (l : List ByteArray) (hl : l.length ≤ 1048576) (k : Nat) (hk : l.length < k) : laws_eqStringS.f k l l = some true := by
  unfold laws_eqStringS.f
  rw [if_pos rfl]
  exact laws_eqStringS_l l hl l.length k 0 (by omega) hk

theorem sz_str_l (l : List ByteArray) (hl : l.length ≤ 1048576) (hs : ∀ p ∈ l, p.size ≤ maxLen) (d : Nat) : ∀ (k i : Nat) (n : Int), i + d = l.length → d < k → 0 ≤ n → n ≤ 1048576 → ∃ m, laws_szStringS.l0 k l n (i : Int) = some m ∧ m ≤ n := by
  induction d with
  | zero =>
    intro k i n hi hk h0 h1
    obtain ⟨k, rfl⟩ : ∃ q, k = q + 1 := ⟨k - 1, by omega⟩
    rw [laws_szStringS.l0, if_neg (by omega)]
    exact ⟨n, rfl, by omega⟩
  | succ d ih =>
    intro k i n hi hk h0 h1
    obtain ⟨k, rfl⟩ : ∃ q, k = q + 1 := ⟨k - 1, by omega⟩
    have hlt : i < l.length := by omega
    have er : rdOf ByteArray.empty l (i : Int) = l[i] := by simp [rdOf, List.getD_eq_getElem?_getD, hlt]
    have hz := hs _ (List.getElem_mem hlt)
    simp only [maxLen] at hz
    rw [laws_szStringS.l0, if_pos (by omega), if_pos (by omega), er, w64 (n := n - (l[i].size : Int)) (by omega) (by omega)]
    by_cases c : n - (l[i].size : Int) < 0
    · rw [if_pos c]
      exact ⟨-1, rfl, by omega⟩
    · rw [if_neg c, w64 (by omega) (by omega)]
      obtain ⟨m, e, h⟩ := ih k (i + 1) (n - (l[i].size : Int)) (by omega) (by omega) (by omega) (by omega)
      have e2 : ((i + 1 : Nat) : Int) = (i : Int) + 1 := by omega
      rw [e2] at e
      exact ⟨m, e, by omega⟩
theorem sz_str (l : List ByteArray) (h : l.length ≤ maxLen) (hs : ∀ p ∈ l, p.size ≤ maxLen) (n : Int) (n0 : 0 ≤ n) (n1 : n ≤ 1048576) (k : Nat) (hk : 1048580 < k) : ∃ m, laws_szStringS.f k l n = some m ∧ m ≤ n ∧ (0 ≤ m → l.length ≤ 1048576) := by
  simp only [maxLen] at h
  unfold laws_szStringS.f
  rw [w64 (by omega) (by omega)]
  by_cases c : n - (l.length : Int) < 0
  · rw [if_pos c]
    exact ⟨-1, rfl, by omega, fun h => by omega⟩
  · rw [if_neg c]
    obtain ⟨m, e, g⟩ := sz_str_l l (by omega) hs l.length k 0 (n - (l.length : Int)) (by omega) (by omega) (by omega) (by omega)
    have e0 : ((0 : Nat) : Int) = 0 := rfl
    rw [e0] at e
    exact ⟨m, e, by omega, fun _ => by omega⟩
def okB (x : S146) : Prop := x.f3.length ≤ maxLen ∧ ∀ p ∈ x.f3, p.size ≤ maxLen
theorem sz_blk_l (l : List S146) (hl : l.length ≤ 1048576) (hs : ∀ x ∈ l, okB x) (d : Nat) : ∀ (k i : Nat) (n : Int), i + d = l.length → d + 1048580 < k → 0 ≤ n → n ≤ 1048576 →
    ∃ m, laws_szBlockS.l0 k l n (i : Int) = some m ∧ m ≤ n ∧ (0 ≤ m → ∀ x ∈ l.drop i, x.f3.length ≤ 1048576) := by
  induction d with
  | zero =>
    intro k i n hi hk h0 h1
    obtain ⟨k, rfl⟩ : ∃ q, k = q + 1 := ⟨k - 1, by omega⟩
    rw [laws_szBlockS.l0, if_neg (by omega), List.drop_eq_nil_of_le (by omega)]
    exact ⟨n, rfl, by omega, fun _ x hx => by simp at hx⟩
  | succ d ih =>
    intro k i n hi hk h0 h1
    obtain ⟨k, rfl⟩ : ∃ q, k = q + 1 := ⟨k - 1, by omega⟩
    have hlt : i < l.length := by omega
    have er : rd_T146 l (i : Int) = l[i] := by simp [rd_T146, List.getD_eq_getElem?_getD, hlt]
    have hz := hs _ (List.getElem_mem hlt)
    obtain ⟨m, e, g1, g2⟩ := sz_str l[i].f3 hz.1 hz.2 n h0 h1 k (by omega)
    rw [laws_szBlockS.l0, if_pos (by omega), if_pos (by omega), er]
    unfold laws_szBlock.f
    rw [e]
    simp only [Option.bind_some]
    by_cases c : m < 0
    · rw [if_pos c]
      simp only [Option.bind_some]
      rw [if_pos (by omega)]
      exact ⟨-1, rfl, by omega, fun h => by omega⟩
    · rw [if_neg c]
      simp only [Option.bind_some]
      rw [if_neg c, w64 (by omega) (by omega)]
      obtain ⟨m2, f, h2, h3⟩ := ih k (i + 1) m (by omega) (by omega) (by omega) (by omega)
      have e2 : ((i + 1 : Nat) : Int) = (i : Int) + 1 := by omega
      rw [e2] at f
      refine ⟨m2, f, by omega, fun h x hx => ?_⟩
      rw [List.drop_eq_getElem_cons hlt, List.mem_cons] at hx
      rcases hx with rfl | hx
      · exact g2 (by omega)
      · exact h3 h x hx
theorem sz_blk (l : List S146) (h : l.length ≤ maxLen) (hs : ∀ x ∈ l, okB x) (n : Int) (n0 : 0 ≤ n) (n1 : n ≤ 1048576) (k : Nat) (hk : 3000000 < k) : ∃ m, laws_szBlockS.f k l n = some m ∧ m ≤ n ∧ (0 ≤ m → l.length ≤ 1048576 ∧ ∀ x ∈ l, x.f3.length ≤ 1048576) := by
  simp only [maxLen] at h
  unfold laws_szBlockS.f
  rw [w64 (by omega) (by omega)]
  by_cases c : n - (l.length : Int) < 0
  · rw [if_pos c]
    exact ⟨-1, rfl, by omega, fun h => by omega⟩
  · rw [if_neg c]
    obtain ⟨m, e, g, g2⟩ := sz_blk_l l (by omega) hs l.length k 0 (n - (l.length : Int)) (by omega) (by omega) (by omega) (by omega)
    have e0 : ((0 : Nat) : Int) = 0 := rfl
    rw [e0] at e
    exact ⟨m, e, by omega, fun h => ⟨by omega, g2 h⟩⟩
def cvB (x : S146) : S110 := ⟨x.f0, x.f1, x.f2, x.f3⟩
theorem to_blk_l (l : List S146) (hl : l.length ≤ 1048576) (hs : ∀ x ∈ l, x.f3.length ≤ 1048576) (d : Nat) : ∀ (k i : Nat), i + d = l.length → d + 1048580 < k →
    laws_toBlockS.l0 k l (fillG z110 (fun j : Nat => cvB (rd_T146 l (j : Int))) l.length i) (i : Int) = some (tabG (fun j : Nat => cvB (rd_T146 l (j : Int))) l.length) := by
  induction d with
  | zero =>
    intro k i hi hk
    obtain ⟨k, rfl⟩ : ∃ n, k = n + 1 := ⟨k - 1, by omega⟩
    obtain rfl : i = l.length := by omega
    rw [laws_toBlockS.l0, if_neg (by omega), fillG_all]
  | succ d ih =>
    intro k i hi hk
    obtain ⟨k, rfl⟩ : ∃ n, k = n + 1 := ⟨k - 1, by omega⟩
    have t : ((i : Int)).toNat = i := by omega
    have hlt : i < l.length := by omega
    have er : rd_T146 l (i : Int) = l[i] := by simp [rd_T146, List.getD_eq_getElem?_getD, hlt]
    have hz := hs _ (List.getElem_mem hlt)
    rw [laws_toBlockS.l0, if_pos (by omega), if_pos (by omega)]
    unfold laws_toBlock.f
    rw [er, laws_toStringS_f _ hz k (by omega)]
    simp only [Option.bind_some]
    rw [if_pos (by rw [fillG_length _ _ _ _ (by omega)]; omega), w64 (by omega) (by omega)]
    have e := ih k (i + 1) (by omega) (by omega)
    rw [← fillG_set z110 (fun j : Nat => cvB (rd_T146 l (j : Int))) l.length i (by omega), er] at e
    have e2 : ((i + 1 : Nat) : Int) = (i : Int) + 1 := by omega
    rw [e2] at e
    rw [t]
    exact e
theorem to_blk (l : List S146) (hl : l.length ≤ 1048576) (hs : ∀ x ∈ l, x.f3.length ≤ 1048576) (k : Nat) (hk : 3000000 < k) : laws_toBlockS.f k l = some (l.map cvB) := by
  unfold laws_toBlockS.f
  have t : ((l.length : Int)).toNat = l.length := by omega
  rw [if_pos (by omega), t, if_pos (by omega), ← fillG_zero z110 (fun j : Nat => cvB (rd_T146 l (j : Int)))]
  have e := to_blk_l l hl hs l.length k 0 (by omega) (by omega)
  have e0 : ((0 : Nat) : Int) = 0 := rfl
  rw [e0] at e
  rw [e, show tabG (fun j : Nat => cvB (rd_T146 l (j : Int))) l.length = l.map cvB from tabG_map l z146 cvB]
theorem eq_blk_l (l : List S110) (hl : l.length ≤ 1048576) (hs : ∀ x ∈ l, x.f3.length ≤ 1048576) (d : Nat) : ∀ (k i : Nat), i + d = l.length → d + 1048580 < k → laws_eqBlockS.l0 k l l (i : Int) = some true := by
  induction d with
  | zero =>
    intro k i hi hk
    obtain ⟨k, rfl⟩ : ∃ n, k = n + 1 := ⟨k - 1, by omega⟩
    rw [laws_eqBlockS.l0, if_neg (by omega)]
  | succ d ih =>
    intro k i hi hk
    obtain ⟨k, rfl⟩ : ∃ n, k = n + 1 := ⟨k - 1, by omega⟩
    have hlt : i < l.length := by omega
    have er : rd_T110 l (i : Int) = l[i] := by simp [rd_T110, List.getD_eq_getElem?_getD, hlt]
    have hz := hs _ (List.getElem_mem hlt)
    have e := ih k (i + 1) (by omega) (by omega)
    have e2 : ((i + 1 : Nat) : Int) = (i : Int) + 1 := by omega
    rw [e2] at e
    rw [laws_eqBlockS.l0, if_pos (by omega), if_pos (by omega), if_pos (by omega), er]
    unfold laws_eqBlock.f
    rw [if_pos rfl, if_pos rfl, if_neg (by simp), laws_eqStringS_f _ hz k (by omega)]
    simp only [Option.bind_some, if_true]
    rw [w64 (by omega) (by omega)]
    exact e
theorem eq_blk (l : List S110) (hl : l.length ≤ 1048576) (hs : ∀ x ∈ l, x.f3.length ≤ 1048576) (k : Nat) (hk : 3000000 < k) : laws_eqBlockS.f k l l = some true := by
  unfold laws_eqBlockS.f
  rw [if_pos rfl]
  exact eq_blk_l l hl hs l.length k 0 (by omega) (by omega)
theorem cv_len (l : List S146) (hl : l.length ≤ 1048576) (hs : ∀ x ∈ l, x.f3.length ≤ 1048576) : (l.map cvB).length ≤ 1048576 ∧ ∀ x ∈ l.map cvB, x.f3.length ≤ 1048576 := by
  refine ⟨by rw [List.length_map]; exact hl, fun x hx => ?_⟩
  obtain ⟨y, hy, rfl⟩ := List.mem_map.1 hx
  exact hs y hy
theorem sin_f (x lo hi : Int) : spec_l00In.f x lo hi = some (inB x lo hi) := by
  unfold spec_l00In.f inB
  by_cases h : x ≥ lo
  · rw [if_pos h]
    have h2 : lo ≤ x := h
    simp [h2]
  · rw [if_neg h]
    have h2 : ¬ lo ≤ x := h
    simp [h2]
theorem nil_size (p : ByteArray) : p.toList = ([] : List UInt8) ↔ (p.size : Int) = 0 := by
  rw [ByteArray.toList_eq]
  show p.data.toList = [] ↔ ((p.data.size : Nat) : Int) = 0
  rw [← Array.length_toList]
  cases p.data.toList with
  | nil => simp
  | cons x l => simp; omega
theorem sblk_l (P x0 n : Int) (b : Bool) (l : List ByteArray) (hl : l.length ≤ 1048576) (hP : (l.length : Int) = P) (d : Nat) : ∀ (k i : Nat), i + d = l.length → d < k → spec_l06Block.l0 k P (i : Int) x0 n b l = some (pagesB n (l.drop i) i) := by
  induction d with
  | zero =>
    intro k i hi hk
    obtain ⟨k, rfl⟩ : ∃ q, k = q + 1 := ⟨k - 1, by omega⟩
    rw [spec_l06Block.l0, if_neg (by omega), List.drop_eq_nil_of_le (by omega)]
    rfl
  | succ d ih =>
    intro k i hi hk
    obtain ⟨k, rfl⟩ : ∃ q, k = q + 1 := ⟨k - 1, by omega⟩
    have hlt : i < l.length := by omega
    have e := ih k (i + 1) (by omega) (by omega)
    have e2 : ((i + 1 : Nat) : Int) = (i : Int) + 1 := by omega
    rw [e2] at e
    have er : rdOf ByteArray.empty l (i : Int) = l[i] := by simp [rdOf, List.getD_eq_getElem?_getD, hlt]
    rw [spec_l06Block.l0, if_pos (by omega), if_pos (by omega), if_pos (by omega), er, w64 (by omega) (by omega), e, List.drop_eq_getElem_cons hlt, pagesB_cons]
    by_cases c1 : (l[i].size : Int) = 0
    · rw [if_pos c1, decide_eq_true ((nil_size _).2 c1), Bool.true_or, Bool.true_and]
    · rw [if_neg c1, decide_eq_false (fun h => c1 ((nil_size _).1 h)), Bool.false_or]
      by_cases c2 : (l[i].size : Int) = 91
      · rw [if_pos c2, decide_eq_true c2, Bool.true_and]
        by_cases c3 : (i : Int) ≥ n
        · rw [if_pos c3, decide_eq_true c3]
          rfl
        · rw [if_neg c3, decide_eq_false c3]
          rfl
      · rw [if_neg c2, decide_eq_false c2]
        rfl
theorem sblk_f (P : Int) (x : S110) (hl : x.f3.length ≤ 1048576) (k : Nat) (hk : x.f3.length + 1 < k) : spec_l06Block.f k x.f0 x.f1 x.f2 x.f3 P = some (blkB P x) := by
  obtain ⟨k, rfl⟩ : ∃ q, k = q + 1 := ⟨k - 1, by omega⟩
  unfold spec_l06Block.f blkB
  rw [sin_f, sin_f]
  simp only [Option.bind_some]
  by_cases c1 : inB x.f0 0 1000 = true
  · rw [if_pos c1, c1, Bool.true_and]
    by_cases c2 : inB x.f1 0 P = true
    · rw [if_pos c2, c2, Bool.true_and, spec_l06Block.j0]
      by_cases c3 : ((x.f3.length : Int) != P) = true
      · rw [if_pos c3, c3]
        rfl
      · have c4 : ((x.f3.length : Int) != P) = false := Bool.eq_false_iff.mpr c3
        have e := sblk_l P x.f0 x.f1 x.f2 x.f3 hl (by simpa using c4) x.f3.length k 0 (by omega) (by omega)
        have e0 : ((0 : Nat) : Int) = 0 := rfl
        rw [e0, List.drop_zero] at e
        rw [if_neg c3, e, c4]
        rfl
    · have c4 : inB x.f1 0 P = false := Bool.eq_false_iff.mpr c2
      rw [if_neg c2, spec_l06Block.j0, if_pos rfl, c4]
      rfl
  · have c4 : inB x.f0 0 1000 = false := Bool.eq_false_iff.mpr c1
    rw [if_neg c1, spec_l06Block.j0, if_pos rfl, c4]
    rfl
theorem svf_l (a0 a1 a2 : Int) (l : List S110) (a4 a5 : Int) (a6 : Bool) (a7 : Int) (hl : l.length ≤ 1048576) (hs : ∀ x ∈ l, x.f3.length ≤ 1048576) (d : Nat) : ∀ (k i : Nat), i + d = l.length → d + 1048580 < k →
    spec_ValidFlash.l0 k (i : Int) a0 a1 a2 l a4 a5 a6 a7 = some ((l.drop i).all (blkB a2)) := by
  induction d with
  | zero =>
    intro k i hi hk
    obtain ⟨k, rfl⟩ : ∃ q, k = q + 1 := ⟨k - 1, by omega⟩
    rw [spec_ValidFlash.l0, if_neg (by omega), List.drop_eq_nil_of_le (by omega)]
    rfl
  | succ d ih =>
    intro k i hi hk
    obtain ⟨k, rfl⟩ : ∃ q, k = q + 1 := ⟨k - 1, by omega⟩
    have hlt : i < l.length := by omega
    have e := ih k (i + 1) (by omega) (by omega)
    have e2 : ((i + 1 : Nat) : Int) = (i : Int) + 1 := by omega
    rw [e2] at e
    have er : rd_T110 l (i : Int) = l[i] := by simp [rd_T110, List.getD_eq_getElem?_getD, hlt]
    have hz := hs _ (List.getElem_mem hlt)
    rw [spec_ValidFlash.l0, if_pos (by omega), if_pos (by omega), er, sblk_f a2 l[i] hz k (by omega)]
    simp only [Option.bind_some]
    rw [w64 (by omega) (by omega), e, List.drop_eq_getElem_cons hlt, List.all_cons]
    by_cases c : blkB a2 l[i] = true
    · rw [if_pos c, c, Bool.true_and]
    · rw [if_neg c, Bool.eq_false_iff.mpr c, Bool.false_and]
/-- ValidFlash's two forms answer the same. -/
theorem vflash (a0 a1 a2 : Int) (l : List S110) (a4 a5 : Int) (a6 : Bool) (a7 : Int) (hl : l.length ≤ 1048576) (hs : ∀ x ∈ l, x.f3.length ≤ 1048576) (k : Nat) (hk : 3000000 < k) :
    ∃ r, spec_ValidFlash.f k a0 a1 a2 l a4 a5 a6 a7 = some r ∧ impl_ValidFlash.f a0 a1 a2 l a4 a5 a6 a7 = some r := by
  obtain ⟨k, rfl⟩ : ∃ q, k = q + 1 := ⟨k - 1, by omega⟩
  have s0 : spec_ValidFlash.j0 (k + 1) true a0 a1 a2 l a4 a5 a6 a7 = some false := by rw [spec_ValidFlash.j0, if_pos rfl]
  have hg : spec_ValidGeometry.f a0 a1 a2 = impl_ValidGeometry.f a0 a1 a2 := rfl
  have F : ∃ r : Bool, (some false : Option Bool) = some r ∧ (some false : Option Bool) = some r := ⟨false, rfl, rfl⟩
  obtain ⟨g, eg⟩ : ∃ g, impl_ValidGeometry.f a0 a1 a2 = some g := by
    unfold impl_ValidGeometry.f
    rw [win, win]
    simp only [Option.bind_some]
    by_cases c1 : inB a0 2 3 = true
    · rw [if_pos c1]
      by_cases c2 : inB a1 4 12 = true
      · rw [if_pos c2]
        by_cases c3 : a2 = 8
        · rw [if_pos c3]
          exact ⟨_, rfl⟩
        · rw [if_neg c3]
          exact ⟨_, rfl⟩
      · rw [if_neg c2]
        exact ⟨_, rfl⟩
    · rw [if_neg c1]
      exact ⟨_, rfl⟩
  unfold spec_ValidFlash.f impl_ValidFlash.f impl_Geometry_all.f
  rw [hg, eg, sin_f, sin_f, win, win, s0]
  simp only [Option.bind_some]
  cases g with
  | false =>
    rw [if_neg (by simp), if_neg (by simp)]
    exact F
  | true =>
    rw [if_pos rfl, if_pos rfl]
    by_cases c1 : (l.length : Int) = wrap64 (a0 * a1)
    · rw [if_pos c1, if_pos c1]
      by_cases c2 : inB a4 (-1) 1000000 = true
      · rw [if_pos c2, if_pos c2]
        by_cases c3 : inB a5 0 91 = true
        · rw [if_pos c3, if_pos c3]
          by_cases c4 : a7 < 0
          · rw [if_pos c4, decide_eq_true c4, s0]
            exact F
          · have e := svf_l a0 a1 a2 l a4 a5 a6 a7 hl hs l.length k 0 (by omega) (by omega)
            have e0 : ((0 : Nat) : Int) = 0 := rfl
            rw [e0, List.drop_zero] at e
            rw [if_neg c4, decide_eq_false c4, spec_ValidFlash.j0, if_neg (by simp), e]
            refine ⟨_, rfl, ?_⟩
            rw [List.not_any_eq_all_not]
            simp only [Bool.not_not]
        · rw [if_neg c3, if_neg c3]
          exact F
      · rw [if_neg c2, if_neg c2]
        exact F
    · rw [if_neg c1, if_neg c1]
      exact F
theorem FnExactValidFlash : laws_FnExactValidFlash.Pure := by
  intro a0 a1 a2 l a4 a5 a6 a7 _ _ _ h3 _ _ _
  have hb : ∀ x ∈ l, okB x := fun x hx => ⟨(h3.2 x hx).2.2.2.1, (h3.2 x hx).2.2.2.2⟩
  refine ⟨4000000, ?_⟩
  unfold laws_FnExactValidFlash.f laws_szFlash.f laws_toFlash.f laws_toGeometry.f laws_eqFlash.f laws_eqGeometry.f
  obtain ⟨m, e1, h1, g1⟩ := sz_blk l h3.1 hb 1048576 (by omega) (by omega) 4000000 (by omega)
  rw [e1]
  simp only [Option.bind_some]
  by_cases c : m < 0
  · rw [if_pos c]
    simp only [Option.bind_some]
    rw [if_pos (by omega)]
  · rw [if_neg c]
    simp only [Option.bind_some]
    rw [if_neg c]
    obtain ⟨g2, g3⟩ := g1 (by omega)
    obtain ⟨y1, y2⟩ := cv_len l g2 g3
    obtain ⟨r, s1, s2⟩ := vflash a0 a1 a2 (l.map cvB) a4 a5 a6 a7 y1 y2 4000000 (by omega)
    rw [to_blk l g2 g3 4000000 (by omega)]
    simp only [Option.bind_some]
    rw [s1, s2]
    simp only [Option.bind_some]
    rw [if_neg (by simp), eq_blk _ y1 y2 4000000 (by omega)]
    simp

end Go.Proofs.Ytenmffpkdfbhbaa.Pure
