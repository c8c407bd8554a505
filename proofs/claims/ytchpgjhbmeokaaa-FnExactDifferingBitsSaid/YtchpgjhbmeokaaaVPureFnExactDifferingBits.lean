/- The pure statement of FnExactDifferingBits holds. No condition beyond the row's bounds. -/
import Derived.Test.YtchpgjhbmeokaaaVQFnExactDifferingBitsx12
import Derived.Test.YtchpgjhbmeokaaaVLem
import Derived.Test.YtchpgjhbmeokaaaVGen
import Derived.Test.YtchpgjhbmeokaaaVHand
namespace Go.Proofs.Ytchpgjhbmeokaaa.Pure
open Go.RowKit Go.Proofs.Ytchpgjhbmeokaaa.QFnExactDifferingBits Go.Proofs.YtchpgjhbmeokaaaW.PrintWords Go.Proofs.YtchpgjhbmeokaaaW.PrintLast
open Go.Proofs.Ytchpgjhbmeokaaa.Lem Go.Proofs.Ytchpgjhbmeokaaa.Gen Go.Proofs.Ytchpgjhbmeokaaa.Hand
theorem laws_toStringS_l (l : List ByteArray) (hl : l.length ≤ 1048576) (d : Nat) : ∀ (k i : Nat), i + d = l.length → d < k →
    laws_toStringS.l0 k l (fillG ByteArray.empty (fun j : Nat => rdOf ByteArray.empty l (j : Int)) l.length i) (i : Int) = some (tabG (fun j : Nat => rdOf ByteArray.empty l (j : Int)) l.length) := by
  induction d with
  | zero =>
    intro k i hi hk
    obtain ⟨k, rfl⟩ : ∃ n, k = n + 1 := ⟨k - 1, by omega⟩
    obtain rfl : i = l.length := by omega
    rw [laws_toStringS.l0, if_neg (by omega), fillG_all]
  | succ d ih =>
    intro k i hi hk
    obtain ⟨k, rfl⟩ : ∃ n, k = n + 1 := ⟨k - 1, by omega⟩
    have t : ((i : Int)).toNat = i := by omega
    rw [laws_toStringS.l0, if_pos (by omega), if_pos (by omega)]
    rw [if_pos (by rw [fillG_length _ _ _ _ (by omega)]; omega), w64 (by omega) (by omega)]
    have e := ih k (i + 1) (by omega) (by omega)
    rw [← fillG_set ByteArray.empty (fun j : Nat => rdOf ByteArray.empty l (j : Int)) l.length i (by omega)] at e
    have e2 : ((i + 1 : Nat) : Int) = (i : Int) + 1 := by omega
    rw [e2] at e
    rw [t]
    exact e
theorem laws_toStringS_f (l : List ByteArray) (hl : l.length ≤ 1048576) (k : Nat) (hk : l.length < k) : laws_toStringS.f k l = some (l) := by
  unfold laws_toStringS.f
  have t : ((l.length : Int)).toNat = l.length := by omega
  rw [if_pos (by omega), t, if_pos (by omega), show (⟨#[]⟩ : ByteArray) = ByteArray.empty from rfl, ← fillG_zero ByteArray.empty (fun j : Nat => rdOf ByteArray.empty l (j : Int))]
  have e := laws_toStringS_l l hl l.length k 0 (by omega) hk
  have e0 : ((0 : Nat) : Int) = 0 := rfl
  rw [e0] at e
  rw [e, show tabG (fun j : Nat => rdOf ByteArray.empty l (j : Int)) l.length = l from tabG_id l ByteArray.empty]
theorem laws_eqStringS_l (l : List ByteArray) (hl : l.length ≤ 1048576) (d : Nat) : ∀ (k i : Nat), i + d = l.length → d < k → laws_eqStringS.l0 k l l (i : Int) = some true := by
  induction d with
  | zero =>
    intro k i hi hk
    obtain ⟨k, rfl⟩ : ∃ n, k = n + 1 := ⟨k - 1, by omega⟩
    rw [laws_eqStringS.l0, if_neg (by omega)]
  | succ d ih =>
    intro k i hi hk
    obtain ⟨k, rfl⟩ : ∃ n, k = n + 1 := ⟨k - 1, by omega⟩
    rw [laws_eqStringS.l0, if_pos (by omega), if_pos (by omega), if_pos (by omega)]
    rw [if_pos rfl]
    rw [w64 (by omega) (by omega)]
    exact ih k (i + 1) (by omega) (by omega)
theorem laws_eqStringS_f (l : List ByteArray) (hl : l.length ≤ 1048576) (k : Nat) (hk : l.length < k) : laws_eqStringS.f k l l = some true := by
  unfold laws_eqStringS.f
  rw [if_pos rfl]
  exact laws_eqStringS_l l hl l.length k 0 (by omega) hk

theorem sz_str_l (l : List ByteArray) (hl : l.length ≤ 1048576) (hs : ∀ p ∈ l, p.size ≤ maxLen) (d : Nat) : ∀ (k i : Nat) (n : Int), i + d = l.length → d < k → 0 ≤ n → n ≤ 1048576 → ∃ m, laws_szStringS.l0 k l n (i : Int) = some m ∧ m ≤ n := by
  induction d with
  | zero =>
    intro k i n hi hk h0 h1
    obtain ⟨k, rfl⟩ : ∃ q, k = q + 1 := ⟨k - 1, by omega⟩
    rw [laws_szStringS.l0, if_neg (by omega)]
    exact ⟨n, rfl, by omega⟩
  | succ d ih =>
    intro k i n hi hk h0 h1
    obtain ⟨k, rfl⟩ : ∃ q, k = q + 1 := ⟨k - 1, by omega⟩
    have hlt : i < l.length := by omega
    have er : rdOf ByteArray.empty l (i : Int) = l[i] := by simp [rdOf, List.getD_eq_getElem?_getD, hlt]
    have hz := hs _ (List.getElem_mem hlt)
    simp only [maxLen] at hz
    rw [laws_szStringS.l0, if_pos (by omega), if_pos (by omega), er, w64 (n := n - (l[i].size : Int)) (by omega) (by omega)]
    by_cases c : n - (l[i].size : Int) < 0
    · rw [if_pos c]
      exact ⟨-1, rfl, by omega⟩
    · rw [if_neg c, w64 (by omega) (by omega)]
      obtain ⟨m, e, h⟩ := ih k (i + 1) (n - (l[i].size : Int)) (by omega) (by omega) (by omega) (by omega)
      have e2 : ((i + 1 : Nat) : Int) = (i : Int) + 1 := by omega
      rw [e2] at e
      exact ⟨m, e, by omega⟩
theorem sz_str (l : List ByteArray) (h : l.length ≤ maxLen) (hs : ∀ p ∈ l, p.size ≤ maxLen) (n : Int) (n0 : 0 ≤ n) (n1 : n ≤ 1048576) (k : Nat) (hk : 1048580 < k) : ∃ m, laws_szStringS.f k l n = some m ∧ m ≤ n ∧ (0 ≤ m → l.length ≤ 1048576) := by
  simp only [maxLen] at h
  unfold laws_szStringS.f
  rw [w64 (by omega) (by omega)]
  by_cases c : n - (l.length : Int) < 0
  · rw [if_pos c]
    exact ⟨-1, rfl, by omega, fun h => by omega⟩
  · rw [if_neg c]
    obtain ⟨m, e, g⟩ := sz_str_l l (by omega) hs l.length k 0 (n - (l.length : Int)) (by omega) (by omega) (by omega) (by omega)
    have e0 : ((0 : Nat) : Int) = 0 := rfl
    rw [e0] at e
    exact ⟨m, e, by omega, fun _ => by omega⟩
def okB (x : S113) : Prop := x.f3.length ≤ maxLen ∧ ∀ p ∈ x.f3, p.size ≤ maxLen
theorem sz_blk_l (l : List S113) (hl : l.length ≤ 1048576) (hs : ∀ x ∈ l, okB x) (d : Nat) : ∀ (k i : Nat) (n : Int), i + d = l.length → d + 1048580 < k → 0 ≤ n → n ≤ 1048576 →
    ∃ m, laws_szBlockS.l0 k l n (i : Int) = some m ∧ m ≤ n ∧ (0 ≤ m → ∀ x ∈ l.drop i, x.f3.length ≤ 1048576) := by
  induction d with
  | zero =>
    intro k i n hi hk h0 h1
    obtain ⟨k, rfl⟩ : ∃ q, k = q + 1 := ⟨k - 1, by omega⟩
    rw [laws_szBlockS.l0, if_neg (by omega), List.drop_eq_nil_of_le (by omega)]
    exact ⟨n, rfl, by omega, fun _ x hx => by simp at hx⟩
  | succ d ih =>
    intro k i n hi hk h0 h1
    obtain ⟨k, rfl⟩ : ∃ q, k = q + 1 := ⟨k - 1, by omega⟩
    have hlt : i < l.length := by omega
    have er : rd_T113 l (i : Int) = l[i] := by simp [rd_T113, List.getD_eq_getElem?_getD, hlt]
    have hz := hs _ (List.getElem_mem hlt)
    obtain ⟨m, e, g1, g2⟩ := sz_str l[i].f3 hz.1 hz.2 n h0 h1 k (by omega)
    rw [laws_szBlockS.l0, if_pos (by omega), if_pos (by omega), er]
    unfold laws_szBlock.f
    rw [e]
    simp only [Option.bind_some]
    by_cases c : m < 0
    · rw [if_pos c]
      simp only [Option.bind_some]
      rw [if_pos (by omega)]
      exact ⟨-1, rfl, by omega, fun h => by omega⟩
    · rw [if_neg c]
      simp only [Option.bind_some]
      rw [if_neg c, w64 (by omega) (by omega)]
      obtain ⟨m2, f, h2, h3⟩ := ih k (i + 1) m (by omega) (by omega) (by omega) (by omega)
      have e2 : ((i + 1 : Nat) : Int) = (i : Int) + 1 := by omega
      rw [e2] at f
      refine ⟨m2, f, by omega, fun h x hx => ?_⟩
      rw [List.drop_eq_getElem_cons hlt, List.mem_cons] at hx
      rcases hx with rfl | hx
      · exact g2 (by omega)
      · exact h3 h x hx
theorem sz_blk (l : List S113) (h : l.length ≤ maxLen) (hs : ∀ x ∈ l, okB x) (n : Int) (n0 : 0 ≤ n) (n1 : n ≤ 1048576) (k : Nat) (hk : 3000000 < k) : ∃ m, laws_szBlockS.f k l n = some m ∧ m ≤ n ∧ (0 ≤ m → l.length ≤ 1048576 ∧ ∀ x ∈ l, x.f3.length ≤ 1048576) := by
  simp only [maxLen] at h
  unfold laws_szBlockS.f
  rw [w64 (by omega) (by omega)]
  by_cases c : n - (l.length : Int) < 0
  · rw [if_pos c]
    exact ⟨-1, rfl, by omega, fun h => by omega⟩
  · rw [if_neg c]
    obtain ⟨m, e, g, g2⟩ := sz_blk_l l (by omega) hs l.length k 0 (n - (l.length : Int)) (by omega) (by omega) (by omega) (by omega)
    have e0 : ((0 : Nat) : Int) = 0 := rfl
    rw [e0] at e
    exact ⟨m, e, by omega, fun h => ⟨by omega, g2 h⟩⟩
def cvB (x : S113) : S91 := ⟨x.f0, x.f1, x.f2, x.f3⟩
theorem to_blk_l (l : List S113) (hl : l.length ≤ 1048576) (hs : ∀ x ∈ l, x.f3.length ≤ 1048576) (d : Nat) : ∀ (k i : Nat), i + d = l.length → d + 1048580 < k →
    laws_toBlockS.l0 k l (fillG z91 (fun j : Nat => cvB (rd_T113 l (j : Int))) l.length i) (i : Int) = some (tabG (fun j : Nat => cvB (rd_T113 l (j : Int))) l.length) := by
  induction d with
  | zero =>
    intro k i hi hk
    obtain ⟨k, rfl⟩ : ∃ n, k = n + 1 := ⟨k - 1, by omega⟩
    obtain rfl : i = l.length := by omega
    rw [laws_toBlockS.l0, if_neg (by omega), fillG_all]
  | succ d ih =>
    intro k i hi hk
    obtain ⟨k, rfl⟩ : ∃ n, k = n + 1 := ⟨k - 1, by omega⟩
    have t : ((i : Int)).toNat = i := by omega
    have hlt : i < l.length := by omega
    have er : rd_T113 l (i : Int) = l[i] := by simp [rd_T113, List.getD_eq_getElem?_getD, hlt]
    have hz := hs _ (List.getElem_mem hlt)
    rw [laws_toBlockS.l0, if_pos (by omega), if_pos (by omega)]
    unfold laws_toBlock.f
    rw [er, laws_toStringS_f _ hz k (by omega)]
    simp only [Option.bind_some]
    rw [if_pos (by rw [fillG_length _ _ _ _ (by omega)]; omega), w64 (by omega) (by omega)]
    have e := ih k (i + 1) (by omega) (by omega)
    rw [← fillG_set z91 (fun j : Nat => cvB (rd_T113 l (j : Int))) l.length i (by omega), er] at e
    have e2 : ((i + 1 : Nat) : Int) = (i : Int) + 1 := by omega
    rw [e2] at e
    rw [t]
    exact e
theorem to_blk (l : List S113) (hl : l.length ≤ 1048576) (hs : ∀ x ∈ l, x.f3.length ≤ 1048576) (k : Nat) (hk : 3000000 < k) : laws_toBlockS.f k l = some (l.map cvB) := by
  unfold laws_toBlockS.f
  have t : ((l.length : Int)).toNat = l.length := by omega
  rw [if_pos (by omega), t, if_pos (by omega), ← fillG_zero z91 (fun j : Nat => cvB (rd_T113 l (j : Int)))]
  have e := to_blk_l l hl hs l.length k 0 (by omega) (by omega)
  have e0 : ((0 : Nat) : Int) = 0 := rfl
  rw [e0] at e
  rw [e, show tabG (fun j : Nat => cvB (rd_T113 l (j : Int))) l.length = l.map cvB from tabG_map l z113 cvB]
theorem eq_blk_l (l : List S91) (hl : l.length ≤ 1048576) (hs : ∀ x ∈ l, x.f3.length ≤ 1048576) (d : Nat) : ∀ (k i : Nat), i + d = l.length → d + 1048580 < k → laws_eqBlockS.l0 k l l (i : Int) = some true := by
  induction d with
  | zero =>
    intro k i hi hk
    obtain ⟨k, rfl⟩ : ∃ n, k = n + 1 := ⟨k - 1, by omega⟩
    rw [laws_eqBlockS.l0, if_neg (by omega)]
  | succ d ih =>
    intro k i hi hk
    obtain ⟨k, rfl⟩ : ∃ n, k = n + 1 := ⟨k - 1, by omega⟩
    have hlt : i < l.length := by omega
    have er : rd_T91 l (i : Int) = l[i] := by simp [rd_T91, List.getD_eq_getElem?_getD, hlt]
    have hz := hs _ (List.getElem_mem hlt)
    have e := ih k (i + 1) (by omega) (by omega)
    have e2 : ((i + 1 : Nat) : Int) = (i : Int) + 1 := by omega
    rw [e2] at e
    rw [laws_eqBlockS.l0, if_pos (by omega), if_pos (by omega), if_pos (by omega), er]
    unfold laws_eqBlock.f
    rw [if_pos rfl, if_pos rfl, if_neg (by simp), laws_eqStringS_f _ hz k (by omega)]
    simp only [Option.bind_some, if_true]
    rw [w64 (by omega) (by omega)]
    exact e
theorem eq_blk (l : List S91) (hl : l.length ≤ 1048576) (hs : ∀ x ∈ l, x.f3.length ≤ 1048576) (k : Nat) (hk : 3000000 < k) : laws_eqBlockS.f k l l = some true := by
  unfold laws_eqBlockS.f
  rw [if_pos rfl]
  exact eq_blk_l l hl hs l.length k 0 (by omega) (by omega)
theorem cv_len (l : List S113) (hl : l.length ≤ 1048576) (hs : ∀ x ∈ l, x.f3.length ≤ 1048576) : (l.map cvB).length ≤ 1048576 ∧ ∀ x ∈ l.map cvB, x.f3.length ≤ 1048576 := by
  refine ⟨by rw [List.length_map]; exact hl, fun x hx => ?_⟩
  obtain ⟨y, hy, rfl⟩ := List.mem_map.1 hx
  exact hs y hy
theorem sin_f (x lo hi : Int) : spec_l00In.f x lo hi = some (inB x lo hi) := by
  unfold spec_l00In.f inB
  by_cases h : x ≥ lo
  · rw [if_pos h]
    have h2 : lo ≤ x := h
    simp [h2]
  · rw [if_neg h]
    have h2 : ¬ lo ≤ x := h
    simp [h2]
theorem nil_size (p : ByteArray) : p.toList = ([] : List UInt8) ↔ (p.size : Int) = 0 := by
  rw [ByteArray.toList_eq]
  show p.data.toList = [] ↔ ((p.data.size : Nat) : Int) = 0
  rw [← Array.length_toList]
  cases p.data.toList with
  | nil => simp
  | cons x l => simp; omega
theorem sblk_l (P x0 n : Int) (b : Bool) (l : List ByteArray) (hl : l.length ≤ 1048576) (hP : (l.length : Int) = P) (d : Nat) : ∀ (k i : Nat), i + d = l.length → d < k → spec_l06Block.l0 k P (i : Int) x0 n b l = some (pagesB n (l.drop i) i) := by
  induction d with
  | zero =>
    intro k i hi hk
    obtain ⟨k, rfl⟩ : ∃ q, k = q + 1 := ⟨k - 1, by omega⟩
    rw [spec_l06Block.l0, if_neg (by omega), List.drop_eq_nil_of_le (by omega)]
    rfl
  | succ d ih =>
    intro k i hi hk
    obtain ⟨k, rfl⟩ : ∃ q, k = q + 1 := ⟨k - 1, by omega⟩
    have hlt : i < l.length := by omega
    have e := ih k (i + 1) (by omega) (by omega)
    have e2 : ((i + 1 : Nat) : Int) = (i : Int) + 1 := by omega
    rw [e2] at e
    have er : rdOf ByteArray.empty l (i : Int) = l[i] := by simp [rdOf, List.getD_eq_getElem?_getD, hlt]
    rw [spec_l06Block.l0, if_pos (by omega), if_pos (by omega), if_pos (by omega), er, w64 (by omega) (by omega), e, List.drop_eq_getElem_cons hlt, pagesB_cons]
    by_cases c1 : (l[i].size : Int) = 0
    · rw [if_pos c1, decide_eq_true ((nil_size _).2 c1), Bool.true_or, Bool.true_and]
    · rw [if_neg c1, decide_eq_false (fun h => c1 ((nil_size _).1 h)), Bool.false_or]
      by_cases c2 : (l[i].size : Int) = 91
      · rw [if_pos c2, decide_eq_true c2, Bool.true_and]
        by_cases c3 : (i : Int) ≥ n
        · rw [if_pos c3, decide_eq_true c3]
          rfl
        · rw [if_neg c3, decide_eq_false c3]
          rfl
      · rw [if_neg c2, decide_eq_false c2]
        rfl
theorem sblk_f (P : Int) (x : S91) (hl : x.f3.length ≤ 1048576) (k : Nat) (hk : x.f3.length + 1 < k) : spec_l06Block.f k x.f0 x.f1 x.f2 x.f3 P = some (blkB P x) := by
  obtain ⟨k, rfl⟩ : ∃ q, k = q + 1 := ⟨k - 1, by omega⟩
  unfold spec_l06Block.f blkB
  rw [sin_f, sin_f]
  simp only [Option.bind_some]
  by_cases c1 : inB x.f0 0 1000 = true
  · rw [if_pos c1, c1, Bool.true_and]
    by_cases c2 : inB x.f1 0 P = true
    · rw [if_pos c2, c2, Bool.true_and, spec_l06Block.j0]
      by_cases c3 : ((x.f3.length : Int) != P) = true
      · rw [if_pos c3, c3]
        rfl
      · have c4 : ((x.f3.length : Int) != P) = false := Bool.eq_false_iff.mpr c3
        have e := sblk_l P x.f0 x.f1 x.f2 x.f3 hl (by simpa using c4) x.f3.length k 0 (by omega) (by omega)
        have e0 : ((0 : Nat) : Int) = 0 := rfl
        rw [e0, List.drop_zero] at e
        rw [if_neg c3, e, c4]
        rfl
    · have c4 : inB x.f1 0 P = false := Bool.eq_false_iff.mpr c2
      rw [if_neg c2, spec_l06Block.j0, if_pos rfl, c4]
      rfl
  · have c4 : inB x.f0 0 1000 = false := Bool.eq_false_iff.mpr c1
    rw [if_neg c1, spec_l06Block.j0, if_pos rfl, c4]
    rfl
theorem svf_l (a0 a1 a2 : Int) (l : List S91) (a4 a5 : Int) (a6 : Bool) (a7 : Int) (hl : l.length ≤ 1048576) (hs : ∀ x ∈ l, x.f3.length ≤ 1048576) (d : Nat) : ∀ (k i : Nat), i + d = l.length → d + 1048580 < k →
    spec_ValidFlash.l0 k (i : Int) a0 a1 a2 l a4 a5 a6 a7 = some ((l.drop i).all (blkB a2)) := by
  induction d with
  | zero =>
    intro k i hi hk
    obtain ⟨k, rfl⟩ : ∃ q, k = q + 1 := ⟨k - 1, by omega⟩
    rw [spec_ValidFlash.l0, if_neg (by omega), List.drop_eq_nil_of_le (by omega)]
    rfl
  | succ d ih =>
    intro k i hi hk
    obtain ⟨k, rfl⟩ : ∃ q, k = q + 1 := ⟨k - 1, by omega⟩
    have hlt : i < l.length := by omega
    have e := ih k (i + 1) (by omega) (by omega)
    have e2 : ((i + 1 : Nat) : Int) = (i : Int) + 1 := by omega
    rw [e2] at e
    have er : rd_T91 l (i : Int) = l[i] := by simp [rd_T91, List.getD_eq_getElem?_getD, hlt]
    have hz := hs _ (List.getElem_mem hlt)
    rw [spec_ValidFlash.l0, if_pos (by omega), if_pos (by omega), er, sblk_f a2 l[i] hz k (by omega)]
    simp only [Option.bind_some]
    rw [w64 (by omega) (by omega), e, List.drop_eq_getElem_cons hlt, List.all_cons]
    by_cases c : blkB a2 l[i] = true
    · rw [if_pos c, c, Bool.true_and]
    · rw [if_neg c, Bool.eq_false_iff.mpr c, Bool.false_and]
/-- ValidFlash's two forms answer the same. -/
theorem vflash (a0 a1 a2 : Int) (l : List S91) (a4 a5 : Int) (a6 : Bool) (a7 : Int) (hl : l.length ≤ 1048576) (hs : ∀ x ∈ l, x.f3.length ≤ 1048576) (k : Nat) (hk : 3000000 < k) :
    ∃ r, spec_ValidFlash.f k a0 a1 a2 l a4 a5 a6 a7 = some r ∧ impl_ValidFlash.f a0 a1 a2 l a4 a5 a6 a7 = some r := by
  obtain ⟨k, rfl⟩ : ∃ q, k = q + 1 := ⟨k - 1, by omega⟩
  have s0 : spec_ValidFlash.j0 (k + 1) true a0 a1 a2 l a4 a5 a6 a7 = some false := by rw [spec_ValidFlash.j0, if_pos rfl]
  have hg : spec_ValidGeometry.f a0 a1 a2 = impl_ValidGeometry.f a0 a1 a2 := rfl
  have F : ∃ r : Bool, (some false : Option Bool) = some r ∧ (some false : Option Bool) = some r := ⟨false, rfl, rfl⟩
  obtain ⟨g, eg⟩ : ∃ g, impl_ValidGeometry.f a0 a1 a2 = some g := by
    unfold impl_ValidGeometry.f
    rw [win, win]
    simp only [Option.bind_some]
    by_cases c1 : inB a0 2 3 = true
    · rw [if_pos c1]
      by_cases c2 : inB a1 4 12 = true
      · rw [if_pos c2]
        by_cases c3 : a2 = 8
        · rw [if_pos c3]
          exact ⟨_, rfl⟩
        · rw [if_neg c3]
          exact ⟨_, rfl⟩
      · rw [if_neg c2]
        exact ⟨_, rfl⟩
    · rw [if_neg c1]
      exact ⟨_, rfl⟩
  unfold spec_ValidFlash.f impl_ValidFlash.f impl_Geometry_all.f
  rw [hg, eg, sin_f, sin_f, win, win, s0]
  simp only [Option.bind_some]
  cases g with
  | false =>
    rw [if_neg (by simp), if_neg (by simp)]
    exact F
  | true =>
    rw [if_pos rfl, if_pos rfl]
    by_cases c1 : (l.length : Int) = wrap64 (a0 * a1)
    · rw [if_pos c1, if_pos c1]
      by_cases c2 : inB a4 (-1) 1000000 = true
      · rw [if_pos c2, if_pos c2]
        by_cases c3 : inB a5 0 91 = true
        · rw [if_pos c3, if_pos c3]
          by_cases c4 : a7 < 0
          · rw [if_pos c4, decide_eq_true c4, s0]
            exact F
          · have e := svf_l a0 a1 a2 l a4 a5 a6 a7 hl hs l.length k 0 (by omega) (by omega)
            have e0 : ((0 : Nat) : Int) = 0 := rfl
            rw [e0, List.drop_zero] at e
            rw [if_neg c4, decide_eq_false c4, spec_ValidFlash.j0, if_neg (by simp), e]
            refine ⟨_, rfl, ?_⟩
            rw [List.not_any_eq_all_not]
            simp only [Bool.not_not]
        · rw [if_neg c3, if_neg c3]
          exact F
      · rw [if_neg c2, if_neg c2]
        exact F
    · rw [if_neg c1, if_neg c1]
      exact F
/-! ### What a valid array is like -/
theorem inB_iff (x lo hi : Int) : inB x lo hi = true ↔ lo ≤ x ∧ x ≤ hi := by
  unfold inB
  simp
theorem geo_facts {a0 a1 a2 : Int} (h : impl_ValidGeometry.f a0 a1 a2 = some true) : (a0 = 2 ∨ a0 = 3) ∧ 4 ≤ a1 ∧ a1 ≤ 12 ∧ (a2 = 8 ∨ a2 = 16) := by
  unfold impl_ValidGeometry.f at h
  rw [win, win] at h
  simp only [Option.bind_some] at h
  by_cases c1 : inB a0 2 3 = true
  · rw [if_pos c1] at h
    have d1 := (inB_iff _ _ _).1 c1
    by_cases c2 : inB a1 4 12 = true
    · rw [if_pos c2] at h
      have d2 := (inB_iff _ _ _).1 c2
      by_cases c3 : a2 = 8
      · exact ⟨by omega, d2.1, d2.2, .inl c3⟩
      · rw [if_neg c3] at h
        have h2 : a2 = 16 := by simpa using h
        exact ⟨by omega, d2.1, d2.2, .inr h2⟩
    · rw [if_neg c2] at h
      exact absurd h (by simp)
  · rw [if_neg c1] at h
    exact absurd h (by simp)
theorem pages_facts (n : Int) : ∀ (l : List ByteArray) (i : Nat), pagesB n l i = true → ∀ p ∈ l, p.toList = ([] : List UInt8) ∨ p.size = 91 := by
  intro l
  induction l with
  | nil => intro i _ p hp; exact absurd hp (by simp)
  | cons q l ih =>
    intro i h p hp
    rw [pagesB_cons] at h
    have h1 := (Bool.and_eq_true_iff.1 h).1
    rcases List.mem_cons.1 hp with e | hm
    · rw [e]
      rcases Bool.or_eq_true_iff.1 h1 with h2 | h2
      · exact .inl (of_decide_eq_true h2)
      · have h3 := of_decide_eq_true (Bool.and_eq_true_iff.1 h2).1
        exact .inr (by omega)
    · exact ih (i + 1) (Bool.and_eq_true_iff.1 h).2 p hm
theorem vf_facts {a0 a1 a2 : Int} {l : List S91} {a4 a5 : Int} {a6 : Bool} {a7 : Int} (h : impl_ValidFlash.f a0 a1 a2 l a4 a5 a6 a7 = some true) :
    ((a0 = 2 ∨ a0 = 3) ∧ 4 ≤ a1 ∧ a1 ≤ 12 ∧ (a2 = 8 ∨ a2 = 16)) ∧ (l.length : Int) = a0 * a1 ∧ l.length ≤ 36 ∧ ∀ x ∈ l, (x.f3.length : Int) = a2 ∧ ∀ p ∈ x.f3, p.toList = ([] : List UInt8) ∨ p.size = 91 := by
  unfold impl_ValidFlash.f at h
  obtain ⟨g, eg, h⟩ := Option.bind_eq_some_iff.mp h
  replace h : (if g = true then ((impl_Geometry_all.f a0 a1 a2).bind fun t200 => (if (l.length : Int) = t200 then ((impl_within.f a4 (-1) 1000000).bind fun t201 => (if t201 = true then ((impl_within.f a5 0 91).bind fun t202 => (if t202 = true then (if a7 < 0 then (some false) else (some (!(l.any fun x => !(blkB a2 x))))) else (some false))) else (some false))) else (some false))) else (some false)) = some true := h
  cases g with
  | false => exact absurd h (by simp)
  | true =>
    rw [if_pos rfl] at h
    have hg := geo_facts eg
    unfold impl_Geometry_all.f at h
    simp only [Option.bind_some] at h
    by_cases c1 : (l.length : Int) = wrap64 (a0 * a1)
    · rw [if_pos c1, win, win] at h
      simp only [Option.bind_some] at h
      have hw : wrap64 (a0 * a1) = a0 * a1 := by
        rcases hg.1 with e | e <;> rw [e] <;> apply w64 <;> omega
      have hl : l.length ≤ 36 := by
        rw [hw] at c1
        rcases hg.1 with e | e <;> rw [e] at c1 <;> omega
      by_cases c2 : inB a4 (-1) 1000000 = true
      · rw [if_pos c2] at h
        by_cases c3 : inB a5 0 91 = true
        · rw [if_pos c3] at h
          by_cases c4 : a7 < 0
          · rw [if_pos c4] at h
            exact absurd h (by simp)
          · rw [if_neg c4] at h
            refine ⟨hg, by rw [← hw]; exact c1, hl, fun x hx => ?_⟩
            have h2 : l.any (fun x => !(blkB a2 x)) = false := by simpa using h
            have h3 := List.any_eq_false.1 h2 x hx
            have h4 : blkB a2 x = true := by simpa using h3
            unfold blkB at h4
            have h5 := (Bool.and_eq_true_iff.1 (Bool.and_eq_true_iff.1 h4).2).2
            have h6 := (Bool.and_eq_true_iff.1 h5).1
            refine ⟨by simpa using h6, pages_facts x.f1 x.f3 0 (Bool.and_eq_true_iff.1 h5).2⟩
        · rw [if_neg c3] at h
          exact absurd h (by simp)
      · rw [if_neg c2] at h
        exact absurd h (by simp)
    · rw [if_neg c1] at h
      exact absurd h (by simp)
theorem impl_xor (a b : ByteArray) (hb : a.size ≤ b.size) (ha : a.size ≤ 1048576) (d : Nat) : ∀ (k i : Nat), i + d = a.size → d < k →
    impl_xored.l0 k a b (fill (xf a b) a.size i) (a.size : Int) (i : Int) = some (xs a b) := by
  induction d with
  | zero =>
    intro k i hi hk
    obtain ⟨k, rfl⟩ : ∃ n, k = n + 1 := ⟨k - 1, by omega⟩
    simp only [impl_xored.l0]
    rw [if_neg (by omega)]
    have e : i = a.size := by omega
    rw [e, xs, fill_all]
  | succ d ih =>
    intro k i hi hk
    obtain ⟨k, rfl⟩ : ∃ n, k = n + 1 := ⟨k - 1, by omega⟩
    simp only [impl_xored.l0]
    have t : ((i : Int)).toNat = i := by omega
    rw [if_pos (by omega), if_pos (by omega), if_pos (by omega), if_pos (by omega), if_pos (by rw [fill_length _ _ _ (by omega)]; omega), w64 (by omega) (by omega), t]
    have e : (fill (xf a b) a.size i).set i (Go.bits .xor .u8 (bt a (i : Int)) (bt b (i : Int))) = fill (xf a b) a.size (i + 1) := fill_set (xf a b) a.size i (by omega)
    rw [e]
    exact ih k (i + 1) (by omega) (by omega)
theorem impl_xor_f (a b : ByteArray) (hb : a.size ≤ b.size) (ha : a.size ≤ 1048576) (k : Nat) (hk : a.size < k) : impl_xored.f k a b = some (xs a b) := by
  unfold impl_xored.f
  have t : ((a.size : Int)).toNat = a.size := by omega
  rw [if_pos (by omega), t, if_pos (by omega)]
  simp only [Option.bind_some]
  have h := impl_xor a b hb ha a.size k 0 (by omega) hk
  rw [fill_zero] at h
  rw [List.length_replicate]
  exact h
/-- An erased page. -/
def erased : ByteArray := strOfNums (List.replicate 91 255)
def cont (p : ByteArray) : ByteArray := if p.toList = ([] : List UInt8) then erased else p
theorem cont_size {p : ByteArray} (h : p.toList = ([] : List UInt8) ∨ p.size = 91) : (cont p).size = 91 := by
  unfold cont
  split
  · unfold erased
    rw [strOfNums_size, List.length_replicate]
  · rename_i c
    exact h.resolve_left c
theorem fill_l (d : Nat) : ∀ (k i : Nat), i + d = 91 → d < k → spec_l05Fill.l0 k 255 91 (List.replicate i 255) (i : Int) = some erased := by
  induction d with
  | zero =>
    intro k i hi hk
    obtain ⟨k, rfl⟩ : ∃ q, k = q + 1 := ⟨k - 1, by omega⟩
    obtain rfl : i = 91 := by omega
    rw [spec_l05Fill.l0, if_neg (by omega)]
    rfl
  | succ d ih =>
    intro k i hi hk
    obtain ⟨k, rfl⟩ : ∃ q, k = q + 1 := ⟨k - 1, by omega⟩
    have e2 : ((i + 1 : Nat) : Int) = (i : Int) + 1 := by omega
    rw [spec_l05Fill.l0, if_pos (by omega), if_pos (by rw [List.length_replicate]; omega), w64 (by omega) (by omega), ← List.replicate_succ', ← e2]
    exact ih k (i + 1) (by omega) (by omega)
theorem cont_spec (p : ByteArray) (k : Nat) (hk : 100 < k) : spec_l08Content.f k p = some (cont p) := by
  unfold spec_l08Content.f cont
  by_cases c : p.toList = ([] : List UInt8)
  · rw [if_pos c, if_pos c]
    unfold spec_ErasedPage.f spec_l05Fill.f
    have e := fill_l 91 k 0 (by omega) (by omega)
    have e0 : ((0 : Nat) : Int) = 0 := rfl
    rw [e0, List.replicate_zero] at e
    rw [e]
    rfl
  · rw [if_neg c, if_neg c]
theorem erased_impl : impl_ErasedPage.f = some erased := by kernel_rfl
theorem raw_impl (a0 a1 a2 : Int) (l : List S91) (a4 a5 : Int) (a6 : Bool) (a7 : Int) (i j : Nat) (hi : i < l.length) (hj : j < (l[i]).f3.length) :
    impl_Flash_raw.f a0 a1 a2 l a4 a5 a6 a7 (i : Int) (j : Int) = some (cont (rdOf ByteArray.empty ((rd_T91 l (i : Int)).f3) (j : Int))) := by
  have er : rd_T91 l (i : Int) = l[i] := by simp [rd_T91, List.getD_eq_getElem?_getD, hi]
  unfold impl_Flash_raw.f cont
  rw [er, if_pos (by omega), if_pos (by omega), if_pos (by omega), if_pos (by omega), erased_impl]
  by_cases c : (rdOf ByteArray.empty (l[i]).f3 (j : Int)).toList = ([] : List UInt8)
  · rw [if_pos c, if_pos c]
    rfl
  · rw [if_neg c, if_neg c]
set_option maxRecDepth 100000 in
theorem ones_all : ∀ v : Fin 256, spec_l08Ones.f 20 ((v.val : Nat) : Int) = bits_OnesCount8.f ((v.val : Nat) : Int) := by decide +kernel
theorem ones_mono (v : Int) (d k : Nat) (r : Int) (h : spec_l08Ones.f k v = some r) : spec_l08Ones.f (k + d) v = some r := by
  induction d with
  | zero => exact h
  | succ d ih => exact spec_l08Ones.mono v (k + d) r ih
theorem ones_some : ∀ v : Fin 256, (bits_OnesCount8.f ((v.val : Nat) : Int)).isSome = true := by decide +kernel
theorem ones_f (v : Int) (v0 : 0 ≤ v) (v1 : v ≤ 255) (k : Nat) (hk : 30 < k) : ∃ t, spec_l08Ones.f k v = some t ∧ bits_OnesCount8.f v = some t := by
  obtain ⟨n, rfl⟩ : ∃ n : Nat, v = n := ⟨v.toNat, by omega⟩
  have h1 := ones_all ⟨n, by omega⟩
  have h2 := ones_some ⟨n, by omega⟩
  obtain ⟨t, ht⟩ := Option.isSome_iff_exists.1 h2
  refine ⟨t, ?_, ht⟩
  have h3 : spec_l08Ones.f 20 (n : Int) = some t := h1.trans ht
  have h4 := ones_mono (n : Int) (k - 20) 20 t h3
  rwa [show 20 + (k - 20) = k by omega] at h4
section
variable (a0 a1 a2 : Int) (l : List S91) (a4 a5 : Int) (a6 : Bool) (a7 : Int) (b0 b1 b2 : Int) (m : List S91) (b4 b5 : Int) (b6 : Bool) (b7 : Int)
theorem diff_bytes (x y : ByteArray) (hx : x.size = 91) (hy : y.size = 91) (i j : Nat) (u28 u29 u34 : Int) (B : Nat)
    (H : ∀ (k k' : Nat) (acc : Int), B < k → B < k' → ∃ r, spec_DifferingBits.l1 k acc (i : Int) (wrap64 ((j : Int) + 1)) a0 a1 a2 l a4 a5 a6 a7 b0 b1 b2 m b4 b5 b6 b7 = some r ∧ impl_DifferingBits.l1 k' acc (i : Int) u28 u29 u34 (wrap64 ((j : Int) + 1)) a0 a1 a2 l a4 a5 a6 a7 b0 b1 b2 m b4 b5 b6 b7 = some r)
    (d : Nat) : ∀ (k k' q : Nat) (acc : Int), q + d = 91 → B + d + 40 < k → B + d + 40 < k' →
    ∃ r, spec_DifferingBits.l2 k acc (i : Int) (j : Int) x y (q : Int) a0 a1 a2 l a4 a5 a6 a7 b0 b1 b2 m b4 b5 b6 b7 = some r ∧ impl_DifferingBits.l2 k' acc (i : Int) (xs x y) u28 u29 u34 (j : Int) (((xs x y).size : Nat) : Int) (q : Int) a0 a1 a2 l a4 a5 a6 a7 b0 b1 b2 m b4 b5 b6 b7 = some r := by
  have hz : (xs x y).size = 91 := by rw [xs_size, hx]
  induction d with
  | zero =>
    intro k k' q acc hq hk hk'
    obtain ⟨k, rfl⟩ : ∃ n, k = n + 1 := ⟨k - 1, by omega⟩
    obtain ⟨k', rfl⟩ : ∃ n, k' = n + 1 := ⟨k' - 1, by omega⟩
    rw [spec_DifferingBits.l2, if_neg (by omega), impl_DifferingBits.l2, if_neg (by omega)]
    exact H k k' acc (by omega) (by omega)
  | succ d ih =>
    intro k k' q acc hq hk hk'
    obtain ⟨k, rfl⟩ : ∃ n, k = n + 1 := ⟨k - 1, by omega⟩
    obtain ⟨k', rfl⟩ : ∃ n, k' = n + 1 := ⟨k' - 1, by omega⟩
    have e2 : ((q + 1 : Nat) : Int) = (q : Int) + 1 := by omega
    have hr := xf_range x y q
    have hb : bt (xs x y) (q : Int) = xf x y q := xs_bt x y q (by omega)
    obtain ⟨t, t1, t2⟩ := ones_f (xf x y q) hr.1 hr.2 k (by omega)
    have t1' : spec_l08Ones.f k (Go.bits .xor .u8 (bt x (q : Int)) (bt y (q : Int))) = some t := t1
    rw [spec_DifferingBits.l2, if_pos (by omega), if_pos (by omega), if_pos (by omega), t1', impl_DifferingBits.l2, if_pos (by omega), if_pos (by omega), if_pos (by omega), hb, t2]
    simp only [Option.bind_some]
    rw [w64 (n := (q : Int) + 1) (by omega) (by omega), ← e2]
    exact ih k k' (q + 1) _ (by omega) (by omega) (by omega)
theorem diff_pages (P : Nat) (hP : P ≤ 16) (hm : m.length = l.length) (hsl : ∀ x ∈ l, x.f3.length = P ∧ ∀ p ∈ x.f3, p.toList = ([] : List UInt8) ∨ p.size = 91) (hsm : ∀ x ∈ m, x.f3.length = P ∧ ∀ p ∈ x.f3, p.toList = ([] : List UInt8) ∨ p.size = 91)
    (i : Nat) (hi : i < l.length) (u28 : Int) (B : Nat)
    (H : ∀ (k k' : Nat) (acc : Int), B < k → B < k' → ∃ r, spec_DifferingBits.l0 k acc (wrap64 ((i : Int) + 1)) a0 a1 a2 l a4 a5 a6 a7 b0 b1 b2 m b4 b5 b6 b7 = some r ∧ impl_DifferingBits.l0 k' acc u28 (wrap64 ((i : Int) + 1)) a0 a1 a2 l a4 a5 a6 a7 b0 b1 b2 m b4 b5 b6 b7 = some r)
    (d : Nat) : ∀ (k k' j : Nat) (acc : Int), j + d = P → B + d * 200 + 200 < k → B + d * 200 + 200 < k' →
    ∃ r, spec_DifferingBits.l1 k acc (i : Int) (j : Int) a0 a1 a2 l a4 a5 a6 a7 b0 b1 b2 m b4 b5 b6 b7 = some r ∧ impl_DifferingBits.l1 k' acc (i : Int) u28 (i : Int) (P : Int) (j : Int) a0 a1 a2 l a4 a5 a6 a7 b0 b1 b2 m b4 b5 b6 b7 = some r := by
  have him : i < m.length := by omega
  have erl : rd_T91 l (i : Int) = l[i] := by simp [rd_T91, List.getD_eq_getElem?_getD, hi]
  have erm : rd_T91 m (i : Int) = m[i] := by simp [rd_T91, List.getD_eq_getElem?_getD, him]
  have ql := hsl _ (List.getElem_mem hi)
  have qm := hsm _ (List.getElem_mem him)
  induction d with
  | zero =>
    intro k k' j acc hj hk hk'
    obtain ⟨k, rfl⟩ : ∃ n, k = n + 1 := ⟨k - 1, by omega⟩
    obtain ⟨k', rfl⟩ : ∃ n, k' = n + 1 := ⟨k' - 1, by omega⟩
    rw [spec_DifferingBits.l1, if_pos (by omega), if_pos (by omega), erl, if_neg (by omega), impl_DifferingBits.l1, if_neg (by omega)]
    exact H k k' acc (by omega) (by omega)
  | succ d ih =>
    intro k k' j acc hj hk hk'
    obtain ⟨k, rfl⟩ : ∃ n, k = n + 1 := ⟨k - 1, by omega⟩
    obtain ⟨k', rfl⟩ : ∃ n, k' = n + 1 := ⟨k' - 1, by omega⟩
    have hjl : j < (l[i]).f3.length := by omega
    have hjm : j < (m[i]).f3.length := by omega
    have rl : rdOf ByteArray.empty (l[i]).f3 (j : Int) = (l[i]).f3[j] := by simp [rdOf, List.getD_eq_getElem?_getD, hjl]
    have rm : rdOf ByteArray.empty (m[i]).f3 (j : Int) = (m[i]).f3[j] := by simp [rdOf, List.getD_eq_getElem?_getD, hjm]
    have zl : (cont (rdOf ByteArray.empty (l[i]).f3 (j : Int))).size = 91 := by rw [rl]; exact cont_size (ql.2 _ (List.getElem_mem hjl))
    have zm : (cont (rdOf ByteArray.empty (m[i]).f3 (j : Int))).size = 91 := by rw [rm]; exact cont_size (qm.2 _ (List.getElem_mem hjm))
    have il := raw_impl a0 a1 a2 l a4 a5 a6 a7 i j hi hjl
    have im := raw_impl b0 b1 b2 m b4 b5 b6 b7 i j him hjm
    rw [erl] at il
    rw [erm] at im
    have e2 : ((j + 1 : Nat) : Int) = (j : Int) + 1 := by omega
    rw [spec_DifferingBits.l1, if_pos (by omega), if_pos (by omega), erl, if_pos (by omega), if_pos (by omega), cont_spec _ k (by omega)]
    simp only [Option.bind_some]
    rw [if_pos (by omega), erm, if_pos (by omega), cont_spec _ k (by omega), impl_DifferingBits.l1, if_pos (by omega), il, im]
    simp only [Option.bind_some]
    rw [impl_xor_f _ _ (by omega) (by omega) k' (by omega)]
    simp only [Option.bind_some]
    have H1 := diff_bytes a0 a1 a2 l a4 a5 a6 a7 b0 b1 b2 m b4 b5 b6 b7 (cont (rdOf ByteArray.empty (l[i]).f3 (j : Int))) (cont (rdOf ByteArray.empty (m[i]).f3 (j : Int))) zl zm i j u28 (i : Int) (P : Int) (B + d * 200 + 200) (fun k k' acc hk hk' => by
      rw [w64 (n := (j : Int) + 1) (by omega) (by omega), ← e2]
      exact ih k k' (j + 1) acc (by omega) hk hk') 91 k k' 0 acc (by omega) (by omega) (by omega)
    exact H1
theorem diff_blocks (P : Nat) (hP : P ≤ 16) (hPa : a2 = (P : Int)) (hl : l.length ≤ 36) (hm : m.length = l.length) (hsl : ∀ x ∈ l, x.f3.length = P ∧ ∀ p ∈ x.f3, p.toList = ([] : List UInt8) ∨ p.size = 91) (hsm : ∀ x ∈ m, x.f3.length = P ∧ ∀ p ∈ x.f3, p.toList = ([] : List UInt8) ∨ p.size = 91)
    (d : Nat) : ∀ (k k' i : Nat) (acc : Int), i + d = l.length → d * 4000 + 4000 < k → d * 4000 + 4000 < k' →
    ∃ r, spec_DifferingBits.l0 k acc (i : Int) a0 a1 a2 l a4 a5 a6 a7 b0 b1 b2 m b4 b5 b6 b7 = some r ∧ impl_DifferingBits.l0 k' acc (l.length : Int) (i : Int) a0 a1 a2 l a4 a5 a6 a7 b0 b1 b2 m b4 b5 b6 b7 = some r := by
  induction d with
  | zero =>
    intro k k' i acc hi hk hk'
    obtain ⟨k, rfl⟩ : ∃ n, k = n + 1 := ⟨k - 1, by omega⟩
    obtain ⟨k', rfl⟩ : ∃ n, k' = n + 1 := ⟨k' - 1, by omega⟩
    rw [spec_DifferingBits.l0, if_neg (by omega), impl_DifferingBits.l0, if_neg (by omega)]
    exact ⟨_, rfl, rfl⟩
  | succ d ih =>
    intro k k' i acc hi hk hk'
    obtain ⟨k, rfl⟩ : ∃ n, k = n + 1 := ⟨k - 1, by omega⟩
    obtain ⟨k', rfl⟩ : ∃ n, k' = n + 1 := ⟨k' - 1, by omega⟩
    have e2 : ((i + 1 : Nat) : Int) = (i : Int) + 1 := by omega
    have hlt : (i : Int) < (l.length : Int) := by omega
    rw [spec_DifferingBits.l0, impl_DifferingBits.l0]
    simp only [if_pos hlt]
    rw [hPa]
    have H1 := diff_pages a0 a1 (P : Int) l a4 a5 a6 a7 b0 b1 b2 m b4 b5 b6 b7 P hP hm hsl hsm i (by omega) (l.length : Int) (d * 4000 + 4000) (fun k k' acc hk hk' => by
      rw [w64 (n := (i : Int) + 1) (by omega) (by omega), ← e2, ← hPa]
      exact ih k k' (i + 1) acc (by omega) hk hk') P k k' 0 acc (by omega) (by omega) (by omega)
    exact H1
end
theorem diff_f (a0 a1 a2 : Int) (l : List S91) (a4 a5 : Int) (a6 : Bool) (a7 : Int) (b0 b1 b2 : Int) (m : List S91) (b4 b5 : Int) (b6 : Bool) (b7 : Int) (hl : l.length ≤ 1048576) (hs : ∀ x ∈ l, x.f3.length ≤ 1048576) (hm : m.length ≤ 1048576) (hsm : ∀ x ∈ m, x.f3.length ≤ 1048576) (k : Nat) (hk : 3000010 < k) :
    ∃ r, spec_DifferingBits.f k a0 a1 a2 l a4 a5 a6 a7 b0 b1 b2 m b4 b5 b6 b7 = some r ∧ impl_DifferingBits.f k a0 a1 a2 l a4 a5 a6 a7 b0 b1 b2 m b4 b5 b6 b7 = some r := by
  obtain ⟨k, rfl⟩ : ∃ n, k = n + 1 := ⟨k - 1, by omega⟩
  unfold spec_DifferingBits.f impl_DifferingBits.f
  obtain ⟨v, v1, v2⟩ := vflash a0 a1 a2 l a4 a5 a6 a7 hl hs (k + 1) (by omega)
  obtain ⟨u, u1, u2⟩ := vflash b0 b1 b2 m b4 b5 b6 b7 hm hsm (k + 1) (by omega)
  rw [v1, v2, u1, u2]
  simp only [Option.bind_some]
  cases v with
  | false =>
    rw [if_neg (by simp), if_neg (by simp), spec_DifferingBits.j0, if_pos rfl, impl_DifferingBits.j0, if_pos rfl]
    exact ⟨_, rfl, rfl⟩
  | true =>
    rw [if_pos rfl, if_pos rfl]
    cases u with
    | false =>
      rw [spec_DifferingBits.j0, impl_DifferingBits.j0]
      simp only [Bool.not_false, if_true]
      exact ⟨_, rfl, rfl⟩
    | true =>
      have ht : ¬ ((!true) = true) := by decide
      rw [spec_DifferingBits.j0, impl_DifferingBits.j0]
      simp only [if_neg ht]
      by_cases c : (!(a0 == b0) || (!(a1 == b1) || (!(a2 == b2)))) = true
      · rw [if_pos c, if_pos c]
        exact ⟨_, rfl, rfl⟩
      · rw [if_neg c, if_neg c]
        have hg : a0 = b0 ∧ a1 = b1 ∧ a2 = b2 := by simpa using c
        obtain ⟨rfl, rfl, rfl⟩ := hg
        obtain ⟨f1, f2, f3, f4⟩ := vf_facts v2
        obtain ⟨_, g2, g3, g4⟩ := vf_facts u2
        obtain ⟨P, hP⟩ : ∃ P : Nat, a2 = P := ⟨a2.toNat, by omega⟩
        have hall : impl_Geometry_all.f a0 a1 a2 = some (l.length : Int) := by
          unfold impl_Geometry_all.f
          rw [← f2, w64 (by omega) (by omega)]
        rw [hall]
        simp only [Option.bind_some]
        exact diff_blocks a0 a1 a2 l a4 a5 a6 a7 a0 a1 a2 m b4 b5 b6 b7 P (by omega) hP f3 (by omega) (fun x hx => ⟨by have := (f4 x hx).1; omega, (f4 x hx).2⟩) (fun x hx => ⟨by have := (g4 x hx).1; omega, (g4 x hx).2⟩) l.length k k 0 0 (by omega) (by omega) (by omega)
theorem eq_flash (a0 a1 a2 : Int) (l : List S91) (a4 a5 : Int) (a6 : Bool) (a7 : Int) (hl : l.length ≤ 1048576) (hs : ∀ x ∈ l, x.f3.length ≤ 1048576) (k : Nat) (hk : 3000000 < k) : laws_eqFlash.f k a0 a1 a2 l a4 a5 a6 a7 a0 a1 a2 l a4 a5 a6 a7 = some true := by
  unfold laws_eqFlash.f laws_eqGeometry.f
  rw [if_pos rfl, if_pos rfl, if_pos rfl]
  simp only [Option.bind_some, if_true]
  rw [eq_blk _ hl hs k hk]
  simp
theorem to_flash (a0 a1 a2 : Int) (l : List S113) (a4 a5 : Int) (a6 : Bool) (a7 : Int) (hl : l.length ≤ 1048576) (hs : ∀ x ∈ l, x.f3.length ≤ 1048576) (k : Nat) (hk : 3000000 < k) : laws_toFlash.f k a0 a1 a2 l a4 a5 a6 a7 = some (a0, a1, a2, l.map cvB, a4, a5, a6, a7) := by
  unfold laws_toFlash.f laws_toGeometry.f
  simp only [Option.bind_some]
  rw [to_blk l hl hs k hk]
  rfl
theorem sz_flash (a0 a1 a2 : Int) (l : List S113) (a4 a5 : Int) (a6 : Bool) (a7 : Int) (h : l.length ≤ maxLen) (hs : ∀ x ∈ l, okB x) (n : Int) (n0 : 0 ≤ n) (n1 : n ≤ 1048576) (k : Nat) (hk : 3000000 < k) :
    ∃ m, laws_szFlash.f k a0 a1 a2 l a4 a5 a6 a7 n = some m ∧ m ≤ n ∧ (0 ≤ m → l.length ≤ 1048576 ∧ ∀ x ∈ l, x.f3.length ≤ 1048576) := by
  unfold laws_szFlash.f
  obtain ⟨m, e, h1, h2⟩ := sz_blk l h hs n n0 n1 k hk
  rw [e]
  simp only [Option.bind_some]
  by_cases c : m < 0
  · rw [if_pos c]
    exact ⟨-1, rfl, by omega, fun h => by omega⟩
  · rw [if_neg c]
    exact ⟨m, rfl, h1, h2⟩
theorem FnExactDifferingBits : laws_FnExactDifferingBits.Pure := by
  intro a0 a1 a2 l a4 a5 a6 a7 b0 b1 b2 m b4 b5 b6 b7 _ _ _ hl _ _ _ _ _ _ hm _ _ _
  have hb : ∀ x ∈ l, okB x := fun x hx => ⟨(hl.2 x hx).2.2.2.1, (hl.2 x hx).2.2.2.2⟩
  have hc : ∀ x ∈ m, okB x := fun x hx => ⟨(hm.2 x hx).2.2.2.1, (hm.2 x hx).2.2.2.2⟩
  refine ⟨4000000, ?_⟩
  unfold laws_FnExactDifferingBits.f
  obtain ⟨n, e1, h1, g1⟩ := sz_flash a0 a1 a2 l a4 a5 a6 a7 hl.1 hb 1048576 (by omega) (by omega) 4000000 (by omega)
  rw [e1]
  simp only [Option.bind_some]
  by_cases c : n < 0
  · rw [if_pos c]
  · rw [if_neg c]
    obtain ⟨g2, g3⟩ := g1 (by omega)
    obtain ⟨y1, y2⟩ := cv_len l g2 g3
    obtain ⟨n2, e2, h2, g4⟩ := sz_flash b0 b1 b2 m b4 b5 b6 b7 hm.1 hc n (by omega) (by omega) 4000000 (by omega)
    rw [e2]
    simp only [Option.bind_some]
    by_cases c2 : n2 < 0
    · rw [if_pos c2]
    · rw [if_neg c2]
      obtain ⟨g5, g6⟩ := g4 (by omega)
      obtain ⟨y3, y4⟩ := cv_len m g5 g6
      obtain ⟨r, r1, r2⟩ := diff_f a0 a1 a2 (l.map cvB) a4 a5 a6 a7 b0 b1 b2 (m.map cvB) b4 b5 b6 b7 y1 y2 y3 y4 4000000 (by omega)
      rw [to_flash a0 a1 a2 l a4 a5 a6 a7 g2 g3 4000000 (by omega), to_flash b0 b1 b2 m b4 b5 b6 b7 g5 g6 4000000 (by omega)]
      simp only [Option.bind_some]
      rw [r1, r2]
      simp only [Option.bind_some]
      rw [if_pos trivial, show (r.2 != r.2) = false by simp, show (4000000 : Nat) = 3999999 + 1 from rfl, laws_FnExactDifferingBits.j0, if_neg (by simp), to_flash a0 a1 a2 l a4 a5 a6 a7 g2 g3 3999999 (by omega)]
      simp only [Option.bind_some]
      rw [eq_flash a0 a1 a2 _ a4 a5 a6 a7 y1 y2 3999999 (by omega)]
      simp only [Option.bind_some, if_true]
      rw [to_flash b0 b1 b2 m b4 b5 b6 b7 g5 g6 3999999 (by omega)]
      simp only [Option.bind_some]
      rw [eq_flash b0 b1 b2 _ b4 b5 b6 b7 y3 y4 3999999 (by omega)]
      rfl

end Go.Proofs.Ytchpgjhbmeokaaa.Pure
