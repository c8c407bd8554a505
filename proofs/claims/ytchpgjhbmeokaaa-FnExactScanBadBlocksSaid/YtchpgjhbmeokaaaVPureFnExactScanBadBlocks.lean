/- The pure statement of FnExactScanBadBlocks holds. No condition beyond the row's bounds. -/
import Derived.Test.YtchpgjhbmeokaaaVQFnExactScanBadBlocksx9
import Derived.Test.YtchpgjhbmeokaaaVLem
import Derived.Test.YtchpgjhbmeokaaaVGen
import Derived.Test.YtchpgjhbmeokaaaVHand
namespace Go.Proofs.Ytchpgjhbmeokaaa.Pure
open Go.RowKit Go.Proofs.Ytchpgjhbmeokaaa.QFnExactScanBadBlocks Go.Proofs.YtchpgjhbmeokaaaW.PrintWords Go.Proofs.YtchpgjhbmeokaaaW.PrintLast
open Go.Proofs.Ytchpgjhbmeokaaa.Lem Go.Proofs.Ytchpgjhbmeokaaa.Gen Go.Proofs.Ytchpgjhbmeokaaa.Hand
theorem laws_toStringS_l (l : List ByteArray) (hl : l.length ≤ 1048576) (d : Nat) : ∀ (k i : Nat), i + d = l.length → d < k →
    laws_toStringS.l0 k l (fillG ByteArray.empty (fun j : Nat => rdOf ByteArray.empty l (j : Int)) l.length i) (i : Int) = some (tabG (fun j : Nat => rdOf ByteArray.empty l (j : Int)) l.length) := by
  induction d with
  | zero =>
    intro k i hi hk
    obtain ⟨k, rfl⟩ : ∃ n, k = n + 1 := ⟨k - 1, by omega⟩
    obtain rfl : i = l.length := by omega
    rw [laws_toStringS.l0, if_neg (by omega), fillG_all]
  | succ d ih =>
    intro k i hi hk
    obtain ⟨k, rfl⟩ : ∃ n, k = n + 1 := ⟨k - 1, by omega⟩
    have t : ((i : Int)).toNat = i := by omega
    rw [laws_toStringS.l0, if_pos (by omega), if_pos (by omega)]
    rw [if_pos (by rw [fillG_length _ _ _ _ (by omega)]; omega), w64 (by omega) (by omega)]
    have e := ih k (i + 1) (by omega) (by omega)
    rw [← fillG_set ByteArray.empty (fun j : Nat => rdOf ByteArray.empty l (j : Int)) l.length i (by omega)] at e
    have e2 : ((i + 1 : Nat) : Int) = (i : Int) + 1 := by omega
    rw [e2] at e
    rw [t]
    exact e
theorem laws_toStringS_f (l : List ByteArray) (hl : l.length ≤ 1048576) (k : Nat) (hk : l.length < k) : laws_toStringS.f k l = some (l) := by
  unfold laws_toStringS.f
  have t : ((l.length : Int)).toNat = l.length := by omega
  rw [if_pos (by omega), t, if_pos (by omega), show (⟨#[]⟩ : ByteArray) = ByteArray.empty from rfl, ← fillG_zero ByteArray.empty (fun j : Nat => rdOf ByteArray.empty l (j : Int))]
  have e := laws_toStringS_l l hl l.length k 0 (by omega) hk
  have e0 : ((0 : Nat) : Int) = 0 := rfl
  rw [e0] at e
  rw [e, show tabG (fun j : Nat => rdOf ByteArray.empty l (j : Int)) l.length = l from tabG_id l ByteArray.empty]
theorem laws_eqStringS_l (l : List ByteArray) (hl : l.length ≤ 1048576) (d : Nat) : ∀ (k i : Nat), i + d = l.length → d < k → laws_eqStringS.l0 k l l (i : Int) = some true := by
  induction d with
  | zero =>
    intro k i hi hk
    obtain ⟨k, rfl⟩ : ∃ n, k = n + 1 := ⟨k - 1, by omega⟩
    rw [laws_eqStringS.l0, if_neg (by omega)]
  | succ d ih =>
    intro k i hi hk
    obtain ⟨k, rfl⟩ : ∃ n, k = n + 1 := ⟨k - 1, by omega⟩
    rw [laws_eqStringS.l0, if_pos (by omega), if_pos (by omega), if_pos (by omega)]
    rw [if_pos rfl]
    rw [w64 (by omega) (by omega)]
    exact ih k (i + 1) (by omega) (by omega)
theorem laws_eqStringS_f (l : List ByteArray) (hl : l.length ≤ 1048576) (k : Nat) (hk : l.length < k) : laws_eqStringS.f k l l = some true := by
  unfold laws_eqStringS.f
  rw [if_pos rfl]
  exact laws_eqStringS_l l hl l.length k 0 (by omega) hk

theorem sz_str_l (l : List ByteArray) (hl : l.length ≤ 1048576) (hs : ∀ p ∈ l, p.size ≤ maxLen) (d : Nat) : ∀ (k i : Nat) (n : Int), i + d = l.length → d < k → 0 ≤ n → n ≤ 1048576 → ∃ m, laws_szStringS.l0 k l n (i : Int) = some m ∧ m ≤ n := by
  induction d with
  | zero =>
    intro k i n hi hk h0 h1
    obtain ⟨k, rfl⟩ : ∃ q, k = q + 1 := ⟨k - 1, by omega⟩
    rw [laws_szStringS.l0, if_neg (by omega)]
    exact ⟨n, rfl, by omega⟩
  | succ d ih =>
    intro k i n hi hk h0 h1
    obtain ⟨k, rfl⟩ : ∃ q, k = q + 1 := ⟨k - 1, by omega⟩
    have hlt : i < l.length := by omega
    have er : rdOf ByteArray.empty l (i : Int) = l[i] := by simp [rdOf, List.getD_eq_getElem?_getD, hlt]
    have hz := hs _ (List.getElem_mem hlt)
    simp only [maxLen] at hz
    rw [laws_szStringS.l0, if_pos (by omega), if_pos (by omega), er, w64 (n := n - (l[i].size : Int)) (by omega) (by omega)]
    by_cases c : n - (l[i].size : Int) < 0
    · rw [if_pos c]
      exact ⟨-1, rfl, by omega⟩
    · rw [if_neg c, w64 (by omega) (by omega)]
      obtain ⟨m, e, h⟩ := ih k (i + 1) (n - (l[i].size : Int)) (by omega) (by omega) (by omega) (by omega)
      have e2 : ((i + 1 : Nat) : Int) = (i : Int) + 1 := by omega
      rw [e2] at e
      exact ⟨m, e, by omega⟩
theorem sz_str (l : List ByteArray) (h : l.length ≤ maxLen) (hs : ∀ p ∈ l, p.size ≤ maxLen) (n : Int) (n0 : 0 ≤ n) (n1 : n ≤ 1048576) (k : Nat) (hk : 1048580 < k) : ∃ m, laws_szStringS.f k l n = some m ∧ m ≤ n ∧ (0 ≤ m → l.length ≤ 1048576) := by
  simp only [maxLen] at h
  unfold laws_szStringS.f
  rw [w64 (by omega) (by omega)]
  by_cases c : n - (l.length : Int) < 0
  · rw [if_pos c]
    exact ⟨-1, rfl, by omega, fun h => by omega⟩
  · rw [if_neg c]
    obtain ⟨m, e, g⟩ := sz_str_l l (by omega) hs l.length k 0 (n - (l.length : Int)) (by omega) (by omega) (by omega) (by omega)
    have e0 : ((0 : Nat) : Int) = 0 := rfl
    rw [e0] at e
    exact ⟨m, e, by omega, fun _ => by omega⟩
def okB (x : S113) : Prop := x.f3.length ≤ maxLen ∧ ∀ p ∈ x.f3, p.size ≤ maxLen
theorem sz_blk_l (l : List S113) (hl : l.length ≤ 1048576) (hs : ∀ x ∈ l, okB x) (d : Nat) : ∀ (k i : Nat) (n : Int), i + d = l.length → d + 1048580 < k → 0 ≤ n → n ≤ 1048576 →
    ∃ m, laws_szBlockS.l0 k l n (i : Int) = some m ∧ m ≤ n ∧ (0 ≤ m → ∀ x ∈ l.drop i, x.f3.length ≤ 1048576) := by
  induction d with
  | zero =>
    intro k i n hi hk h0 h1
    obtain ⟨k, rfl⟩ : ∃ q, k = q + 1 := ⟨k - 1, by omega⟩
    rw [laws_szBlockS.l0, if_neg (by omega), List.drop_eq_nil_of_le (by omega)]
    exact ⟨n, rfl, by omega, fun _ x hx => by simp at hx⟩
  | succ d ih =>
    intro k i n hi hk h0 h1
    obtain ⟨k, rfl⟩ : ∃ q, k = q + 1 := ⟨k - 1, by omega⟩
    have hlt : i < l.length := by omega
    have er : rd_T113 l (i : Int) = l[i] := by simp [rd_T113, List.getD_eq_getElem?_getD, hlt]
    have hz := hs _ (List.getElem_mem hlt)
    obtain ⟨m, e, g1, g2⟩ := sz_str l[i].f3 hz.1 hz.2 n h0 h1 k (by omega)
    rw [laws_szBlockS.l0, if_pos (by omega), if_pos (by omega), er]
    unfold laws_szBlock.f
    rw [e]
    simp only [Option.bind_some]
    by_cases c : m < 0
    · rw [if_pos c]
      simp only [Option.bind_some]
      rw [if_pos (by omega)]
      exact ⟨-1, rfl, by omega, fun h => by omega⟩
    · rw [if_neg c]
      simp only [Option.bind_some]
      rw [if_neg c, w64 (by omega) (by omega)]
      obtain ⟨m2, f, h2, h3⟩ := ih k (i + 1) m (by omega) (by omega) (by omega) (by omega)
      have e2 : ((i + 1 : Nat) : Int) = (i : Int) + 1 := by omega
      rw [e2] at f
      refine ⟨m2, f, by omega, fun h x hx => ?_⟩
      rw [List.drop_eq_getElem_cons hlt, List.mem_cons] at hx
      rcases hx with rfl | hx
      · exact g2 (by omega)
      · exact h3 h x hx
theorem sz_blk (l : List S113) (h : l.length ≤ maxLen) (hs : ∀ x ∈ l, okB x) (n : Int) (n0 : 0 ≤ n) (n1 : n ≤ 1048576) (k : Nat) (hk : 3000000 < k) : ∃ m, laws_szBlockS.f k l n = some m ∧ m ≤ n ∧ (0 ≤ m → l.length ≤ 1048576 ∧ ∀ x ∈ l, x.f3.length ≤ 1048576) := by
  simp only [maxLen] at h
  unfold laws_szBlockS.f
  rw [w64 (by omega) (by omega)]
  by_cases c : n - (l.length : Int) < 0
  · rw [if_pos c]
    exact ⟨-1, rfl, by omega, fun h => by omega⟩
  · rw [if_neg c]
    obtain ⟨m, e, g, g2⟩ := sz_blk_l l (by omega) hs l.length k 0 (n - (l.length : Int)) (by omega) (by omega) (by omega) (by omega)
    have e0 : ((0 : Nat) : Int) = 0 := rfl
    rw [e0] at e
    exact ⟨m, e, by omega, fun h => ⟨by omega, g2 h⟩⟩
def cvB (x : S113) : S91 := ⟨x.f0, x.f1, x.f2, x.f3⟩
theorem to_blk_l (l : List S113) (hl : l.length ≤ 1048576) (hs : ∀ x ∈ l, x.f3.length ≤ 1048576) (d : Nat) : ∀ (k i : Nat), i + d = l.length → d + 1048580 < k →
    laws_toBlockS.l0 k l (fillG z91 (fun j : Nat => cvB (rd_T113 l (j : Int))) l.length i) (i : Int) = some (tabG (fun j : Nat => cvB (rd_T113 l (j : Int))) l.length) := by
  induction d with
  | zero =>
    intro k i hi hk
    obtain ⟨k, rfl⟩ : ∃ n, k = n + 1 := ⟨k - 1, by omega⟩
    obtain rfl : i = l.length := by omega
    rw [laws_toBlockS.l0, if_neg (by omega), fillG_all]
  | succ d ih =>
    intro k i hi hk
    obtain ⟨k, rfl⟩ : ∃ n, k = n + 1 := ⟨k - 1, by omega⟩
    have t : ((i : Int)).toNat = i := by omega
    have hlt : i < l.length := by omega
    have er : rd_T113 l (i : Int) = l[i] := by simp [rd_T113, List.getD_eq_getElem?_getD, hlt]
    have hz := hs _ (List.getElem_mem hlt)
    rw [laws_toBlockS.l0, if_pos (by omega), if_pos (by omega)]
    unfold laws_toBlock.f
    rw [er, laws_toStringS_f _ hz k (by omega)]
    simp only [Option.bind_some]
    rw [if_pos (by rw [fillG_length _ _ _ _ (by omega)]; omega), w64 (by omega) (by omega)]
    have e := ih k (i + 1) (by omega) (by omega)
    rw [← fillG_set z91 (fun j : Nat => cvB (rd_T113 l (j : Int))) l.length i (by omega), er] at e
    have e2 : ((i + 1 : Nat) : Int) = (i : Int) + 1 := by omega
    rw [e2] at e
    rw [t]
    exact e
theorem to_blk (l : List S113) (hl : l.length ≤ 1048576) (hs : ∀ x ∈ l, x.f3.length ≤ 1048576) (k : Nat) (hk : 3000000 < k) : laws_toBlockS.f k l = some (l.map cvB) := by
  unfold laws_toBlockS.f
  have t : ((l.length : Int)).toNat = l.length := by omega
  rw [if_pos (by omega), t, if_pos (by omega), ← fillG_zero z91 (fun j : Nat => cvB (rd_T113 l (j : Int)))]
  have e := to_blk_l l hl hs l.length k 0 (by omega) (by omega)
  have e0 : ((0 : Nat) : Int) = 0 := rfl
  rw [e0] at e
  rw [e, show tabG (fun j : Nat => cvB (rd_T113 l (j : Int))) l.length = l.map cvB from tabG_map l z113 cvB]
theorem eq_blk_l (l : List S91) (hl : l.length ≤ 1048576) (hs : ∀ x ∈ l, x.f3.length ≤ 1048576) (d : Nat) : ∀ (k i : Nat), i + d = l.length → d + 1048580 < k → laws_eqBlockS.l0 k l l (i : Int) = some true := by
  induction d with
  | zero =>
    intro k i hi hk
    obtain ⟨k, rfl⟩ : ∃ n, k = n + 1 := ⟨k - 1, by omega⟩
    rw [laws_eqBlockS.l0, if_neg (by omega)]
  | succ d ih =>
    intro k i hi hk
    obtain ⟨k, rfl⟩ : ∃ n, k = n + 1 := ⟨k - 1, by omega⟩
    have hlt : i < l.length := by omega
    have er : rd_T91 l (i : Int) = l[i] := by simp [rd_T91, List.getD_eq_getElem?_getD, hlt]
    have hz := hs _ (List.getElem_mem hlt)
    have e := ih k (i + 1) (by omega) (by omega)
    have e2 : ((i + 1 : Nat) : Int) = (i : Int) + 1 := by omega
    rw [e2] at e
    rw [laws_eqBlockS.l0, if_pos (by omega), if_pos (by omega), if_pos (by omega), er]
    unfold laws_eqBlock.f
    rw [if_pos rfl, if_pos rfl, if_neg (by simp), laws_eqStringS_f _ hz k (by omega)]
    simp only [Option.bind_some, if_true]
    rw [w64 (by omega) (by omega)]
    exact e
theorem eq_blk (l : List S91) (hl : l.length ≤ 1048576) (hs : ∀ x ∈ l, x.f3.length ≤ 1048576) (k : Nat) (hk : 3000000 < k) : laws_eqBlockS.f k l l = some true := by
  unfold laws_eqBlockS.f
  rw [if_pos rfl]
  exact eq_blk_l l hl hs l.length k 0 (by omega) (by omega)
theorem cv_len (l : List S113) (hl : l.length ≤ 1048576) (hs : ∀ x ∈ l, x.f3.length ≤ 1048576) : (l.map cvB).length ≤ 1048576 ∧ ∀ x ∈ l.map cvB, x.f3.length ≤ 1048576 := by
  refine ⟨by rw [List.length_map]; exact hl, fun x hx => ?_⟩
  obtain ⟨y, hy, rfl⟩ := List.mem_map.1 hx
  exact hs y hy
theorem sin_f (x lo hi : Int) : spec_l00In.f x lo hi = some (inB x lo hi) := by
  unfold spec_l00In.f inB
  by_cases h : x ≥ lo
  · rw [if_pos h]
    have h2 : lo ≤ x := h
    simp [h2]
  · rw [if_neg h]
    have h2 : ¬ lo ≤ x := h
    simp [h2]
theorem nil_size (p : ByteArray) : p.toList = ([] : List UInt8) ↔ (p.size : Int) = 0 := by
  rw [ByteArray.toList_eq]
  show p.data.toList = [] ↔ ((p.data.size : Nat) : Int) = 0
  rw [← Array.length_toList]
  cases p.data.toList with
  | nil => simp
  | cons x l => simp; omega
theorem sblk_l (P x0 n : Int) (b : Bool) (l : List ByteArray) (hl : l.length ≤ 1048576) (hP : (l.length : Int) = P) (d : Nat) : ∀ (k i : Nat), i + d = l.length → d < k → spec_l06Block.l0 k P (i : Int) x0 n b l = some (pagesB n (l.drop i) i) := by
  induction d with
  | zero =>
    intro k i hi hk
    obtain ⟨k, rfl⟩ : ∃ q, k = q + 1 := ⟨k - 1, by omega⟩
    rw [spec_l06Block.l0, if_neg (by omega), List.drop_eq_nil_of_le (by omega)]
    rfl
  | succ d ih =>
    intro k i hi hk
    obtain ⟨k, rfl⟩ : ∃ q, k = q + 1 := ⟨k - 1, by omega⟩
    have hlt : i < l.length := by omega
    have e := ih k (i + 1) (by omega) (by omega)
    have e2 : ((i + 1 : Nat) : Int) = (i : Int) + 1 := by omega
    rw [e2] at e
    have er : rdOf ByteArray.empty l (i : Int) = l[i] := by simp [rdOf, List.getD_eq_getElem?_getD, hlt]
    rw [spec_l06Block.l0, if_pos (by omega), if_pos (by omega), if_pos (by omega), er, w64 (by omega) (by omega), e, List.drop_eq_getElem_cons hlt, pagesB_cons]
    by_cases c1 : (l[i].size : Int) = 0
    · rw [if_pos c1, decide_eq_true ((nil_size _).2 c1), Bool.true_or, Bool.true_and]
    · rw [if_neg c1, decide_eq_false (fun h => c1 ((nil_size _).1 h)), Bool.false_or]
      by_cases c2 : (l[i].size : Int) = 91
      · rw [if_pos c2, decide_eq_true c2, Bool.true_and]
        by_cases c3 : (i : Int) ≥ n
        · rw [if_pos c3, decide_eq_true c3]
          rfl
        · rw [if_neg c3, decide_eq_false c3]
          rfl
      · rw [if_neg c2, decide_eq_false c2]
        rfl
theorem sblk_f (P : Int) (x : S91) (hl : x.f3.length ≤ 1048576) (k : Nat) (hk : x.f3.length + 1 < k) : spec_l06Block.f k x.f0 x.f1 x.f2 x.f3 P = some (blkB P x) := by
  obtain ⟨k, rfl⟩ : ∃ q, k = q + 1 := ⟨k - 1, by omega⟩
  unfold spec_l06Block.f blkB
  rw [sin_f, sin_f]
  simp only [Option.bind_some]
  by_cases c1 : inB x.f0 0 1000 = true
  · rw [if_pos c1, c1, Bool.true_and]
    by_cases c2 : inB x.f1 0 P = true
    · rw [if_pos c2, c2, Bool.true_and, spec_l06Block.j0]
      by_cases c3 : ((x.f3.length : Int) != P) = true
      · rw [if_pos c3, c3]
        rfl
      · have c4 : ((x.f3.length : Int) != P) = false := Bool.eq_false_iff.mpr c3
        have e := sblk_l P x.f0 x.f1 x.f2 x.f3 hl (by simpa using c4) x.f3.length k 0 (by omega) (by omega)
        have e0 : ((0 : Nat) : Int) = 0 := rfl
        rw [e0, List.drop_zero] at e
        rw [if_neg c3, e, c4]
        rfl
    · have c4 : inB x.f1 0 P = false := Bool.eq_false_iff.mpr c2
      rw [if_neg c2, spec_l06Block.j0, if_pos rfl, c4]
      rfl
  · have c4 : inB x.f0 0 1000 = false := Bool.eq_false_iff.mpr c1
    rw [if_neg c1, spec_l06Block.j0, if_pos rfl, c4]
    rfl
theorem svf_l (a0 a1 a2 : Int) (l : List S91) (a4 a5 : Int) (a6 : Bool) (a7 : Int) (hl : l.length ≤ 1048576) (hs : ∀ x ∈ l, x.f3.length ≤ 1048576) (d : Nat) : ∀ (k i : Nat), i + d = l.length → d + 1048580 < k →
    spec_ValidFlash.l0 k (i : Int) a0 a1 a2 l a4 a5 a6 a7 = some ((l.drop i).all (blkB a2)) := by
  induction d with
  | zero =>
    intro k i hi hk
    obtain ⟨k, rfl⟩ : ∃ q, k = q + 1 := ⟨k - 1, by omega⟩
    rw [spec_ValidFlash.l0, if_neg (by omega), List.drop_eq_nil_of_le (by omega)]
    rfl
  | succ d ih =>
    intro k i hi hk
    obtain ⟨k, rfl⟩ : ∃ q, k = q + 1 := ⟨k - 1, by omega⟩
    have hlt : i < l.length := by omega
    have e := ih k (i + 1) (by omega) (by omega)
    have e2 : ((i + 1 : Nat) : Int) = (i : Int) + 1 := by omega
    rw [e2] at e
    have er : rd_T91 l (i : Int) = l[i] := by simp [rd_T91, List.getD_eq_getElem?_getD, hlt]
    have hz := hs _ (List.getElem_mem hlt)
    rw [spec_ValidFlash.l0, if_pos (by omega), if_pos (by omega), er, sblk_f a2 l[i] hz k (by omega)]
    simp only [Option.bind_some]
    rw [w64 (by omega) (by omega), e, List.drop_eq_getElem_cons hlt, List.all_cons]
    by_cases c : blkB a2 l[i] = true
    · rw [if_pos c, c, Bool.true_and]
    · rw [if_neg c, Bool.eq_false_iff.mpr c, Bool.false_and]
/-- ValidFlash's two forms answer the same. -/
theorem vflash (a0 a1 a2 : Int) (l : List S91) (a4 a5 : Int) (a6 : Bool) (a7 : Int) (hl : l.length ≤ 1048576) (hs : ∀ x ∈ l, x.f3.length ≤ 1048576) (k : Nat) (hk : 3000000 < k) :
    ∃ r, spec_ValidFlash.f k a0 a1 a2 l a4 a5 a6 a7 = some r ∧ impl_ValidFlash.f a0 a1 a2 l a4 a5 a6 a7 = some r := by
  obtain ⟨k, rfl⟩ : ∃ q, k = q + 1 := ⟨k - 1, by omega⟩
  have s0 : spec_ValidFlash.j0 (k + 1) true a0 a1 a2 l a4 a5 a6 a7 = some false := by rw [spec_ValidFlash.j0, if_pos rfl]
  have hg : spec_ValidGeometry.f a0 a1 a2 = impl_ValidGeometry.f a0 a1 a2 := rfl
  have F : ∃ r : Bool, (some false : Option Bool) = some r ∧ (some false : Option Bool) = some r := ⟨false, rfl, rfl⟩
  obtain ⟨g, eg⟩ : ∃ g, impl_ValidGeometry.f a0 a1 a2 = some g := by
    unfold impl_ValidGeometry.f
    rw [win, win]
    simp only [Option.bind_some]
    by_cases c1 : inB a0 2 3 = true
    · rw [if_pos c1]
      by_cases c2 : inB a1 4 12 = true
      · rw [if_pos c2]
        by_cases c3 : a2 = 8
        · rw [if_pos c3]
          exact ⟨_, rfl⟩
        · rw [if_neg c3]
          exact ⟨_, rfl⟩
      · rw [if_neg c2]
        exact ⟨_, rfl⟩
    · rw [if_neg c1]
      exact ⟨_, rfl⟩
  unfold spec_ValidFlash.f impl_ValidFlash.f impl_Geometry_all.f
  rw [hg, eg, sin_f, sin_f, win, win, s0]
  simp only [Option.bind_some]
  cases g with
  | false =>
    rw [if_neg (by simp), if_neg (by simp)]
    exact F
  | true =>
    rw [if_pos rfl, if_pos rfl]
    by_cases c1 : (l.length : Int) = wrap64 (a0 * a1)
    · rw [if_pos c1, if_pos c1]
      by_cases c2 : inB a4 (-1) 1000000 = true
      · rw [if_pos c2, if_pos c2]
        by_cases c3 : inB a5 0 91 = true
        · rw [if_pos c3, if_pos c3]
          by_cases c4 : a7 < 0
          · rw [if_pos c4, decide_eq_true c4, s0]
            exact F
          · have e := svf_l a0 a1 a2 l a4 a5 a6 a7 hl hs l.length k 0 (by omega) (by omega)
            have e0 : ((0 : Nat) : Int) = 0 := rfl
            rw [e0, List.drop_zero] at e
            rw [if_neg c4, decide_eq_false c4, spec_ValidFlash.j0, if_neg (by simp), e]
            refine ⟨_, rfl, ?_⟩
            rw [List.not_any_eq_all_not]
            simp only [Bool.not_not]
        · rw [if_neg c3, if_neg c3]
          exact F
      · rw [if_neg c2, if_neg c2]
        exact F
    · rw [if_neg c1, if_neg c1]
      exact F
/-! ### What a valid array is like -/
theorem eq_flash (a0 a1 a2 : Int) (l : List S91) (a4 a5 : Int) (a6 : Bool) (a7 : Int) (hl : l.length ≤ 1048576) (hs : ∀ x ∈ l, x.f3.length ≤ 1048576) (k : Nat) (hk : 3000000 < k) : laws_eqFlash.f k a0 a1 a2 l a4 a5 a6 a7 a0 a1 a2 l a4 a5 a6 a7 = some true := by
  unfold laws_eqFlash.f laws_eqGeometry.f
  rw [if_pos rfl, if_pos rfl, if_pos rfl]
  simp only [Option.bind_some, if_true]
  rw [eq_blk _ hl hs k hk]
  simp
theorem to_flash (a0 a1 a2 : Int) (l : List S113) (a4 a5 : Int) (a6 : Bool) (a7 : Int) (hl : l.length ≤ 1048576) (hs : ∀ x ∈ l, x.f3.length ≤ 1048576) (k : Nat) (hk : 3000000 < k) : laws_toFlash.f k a0 a1 a2 l a4 a5 a6 a7 = some (a0, a1, a2, l.map cvB, a4, a5, a6, a7) := by
  unfold laws_toFlash.f laws_toGeometry.f
  simp only [Option.bind_some]
  rw [to_blk l hl hs k hk]
  rfl
theorem sz_flash (a0 a1 a2 : Int) (l : List S113) (a4 a5 : Int) (a6 : Bool) (a7 : Int) (h : l.length ≤ maxLen) (hs : ∀ x ∈ l, okB x) (n : Int) (n0 : 0 ≤ n) (n1 : n ≤ 1048576) (k : Nat) (hk : 3000000 < k) :
    ∃ m, laws_szFlash.f k a0 a1 a2 l a4 a5 a6 a7 n = some m ∧ m ≤ n ∧ (0 ≤ m → l.length ≤ 1048576 ∧ ∀ x ∈ l, x.f3.length ≤ 1048576) := by
  unfold laws_szFlash.f
  obtain ⟨m, e, h1, h2⟩ := sz_blk l h hs n n0 n1 k hk
  rw [e]
  simp only [Option.bind_some]
  by_cases c : m < 0
  · rw [if_pos c]
    exact ⟨-1, rfl, by omega, fun h => by omega⟩
  · rw [if_neg c]
    exact ⟨m, rfl, h1, h2⟩
theorem laws_eqInt64S_l (l : List Int) (hl : l.length ≤ 1048576) (d : Nat) : ∀ (k i : Nat), i + d = l.length → d < k → laws_eqInt64S.l0 k l l (i : Int) = some true := by
  induction d with
  | zero =>
    intro k i hi hk
    obtain ⟨k, rfl⟩ : ∃ n, k = n + 1 := ⟨k - 1, by omega⟩
    rw [laws_eqInt64S.l0, if_neg (by omega)]
  | succ d ih =>
    intro k i hi hk
    obtain ⟨k, rfl⟩ : ∃ n, k = n + 1 := ⟨k - 1, by omega⟩
    rw [laws_eqInt64S.l0, if_pos (by omega), if_pos (by omega), if_pos (by omega)]
    rw [if_pos rfl]
    rw [w64 (by omega) (by omega)]
    exact ih k (i + 1) (by omega) (by omega)
theorem laws_eqInt64S_f (l : List Int) (hl : l.length ≤ 1048576) (k : Nat) (hk : l.length < k) : laws_eqInt64S.f k l l = some true := by
  unfold laws_eqInt64S.f
  rw [if_pos rfl]
  exact laws_eqInt64S_l l hl l.length k 0 (by omega) hk
/-- A row of Int, marked from v on up to place i. -/
def mkInt64 (v : Int) (l : List Int) (i : Nat) : List Int := tabG (fun j : Nat => v + (j : Int)) i ++ l.drop i
theorem mkInt64_length (v : Int) (l : List Int) (i : Nat) (h : i ≤ l.length) : (mkInt64 v l i).length = l.length := by simp [mkInt64, tabG_length]; omega
theorem mkInt64_set (v : Int) (l : List Int) (i : Nat) (h : i < l.length) : (mkInt64 v l i).set i (v + (i : Int)) = mkInt64 v l (i + 1) := by
  unfold mkInt64
  rw [List.set_append_right _ _ (by rw [tabG_length]; exact Nat.le_refl _), tabG_length, Nat.sub_self, List.drop_eq_getElem_cons h, List.set_cons_zero, tabG_succ, List.append_assoc]
  rfl
theorem markInt64_l (v : Int) (v0 : 0 ≤ v) (v1 : v ≤ 100000000) (l : List Int) (hl : l.length ≤ 1048576) (d : Nat) : ∀ (k i : Nat), i + d = l.length → d < k → laws_markInt64S.l0 k (mkInt64 v l i) (v + (i : Int)) (i : Int) = some (v + (l.length : Int), tabG (fun j : Nat => v + (j : Int)) l.length) := by
  induction d with
  | zero =>
    intro k i hi hk
    obtain ⟨k, rfl⟩ : ∃ n, k = n + 1 := ⟨k - 1, by omega⟩
    obtain rfl : i = l.length := by omega
    rw [laws_markInt64S.l0, if_neg (by rw [mkInt64_length _ _ _ (Nat.le_refl _)]; omega)]
    simp [mkInt64]
  | succ d ih =>
    intro k i hi hk
    obtain ⟨k, rfl⟩ : ∃ n, k = n + 1 := ⟨k - 1, by omega⟩
    have t : ((i : Int)).toNat = i := by omega
    have e2 : ((i + 1 : Nat) : Int) = (i : Int) + 1 := by omega
    have e := ih k (i + 1) (by omega) (by omega)
    rw [e2, ← Int.add_assoc] at e
    rw [laws_markInt64S.l0, if_pos (by rw [mkInt64_length _ _ _ (by omega)]; omega), if_pos (by omega), t, mkInt64_set _ _ _ (by omega), w64 (n := v + (i : Int) + 1) (by omega) (by omega), w64 (by omega) (by omega)]
    exact e
theorem markInt64_f (v : Int) (v0 : 0 ≤ v) (v1 : v ≤ 100000000) (l : List Int) (hl : l.length ≤ 1048576) (k : Nat) (hk : l.length < k) : laws_markInt64S.f k l v = some (v + (l.length : Int), tabG (fun j : Nat => v + (j : Int)) l.length) := by
  have e := markInt64_l v v0 v1 l hl l.length k 0 (by omega) hk
  have e0 : v + ((0 : Nat) : Int) = v := by omega
  rw [e0] at e
  exact e
theorem heldInt64_l (v : Int) (v0 : 0 ≤ v) (v1 : v ≤ 100000000) (n : Nat) (hl : n ≤ 1048576) (d : Nat) : ∀ (k i : Nat), i + d = n → d < k → laws_heldInt64S.l0 k (tabG (fun j : Nat => v + (j : Int)) n) (v + (i : Int)) (i : Int) = some (v + (n : Int)) := by
  induction d with
  | zero =>
    intro k i hi hk
    obtain ⟨k, rfl⟩ : ∃ n, k = n + 1 := ⟨k - 1, by omega⟩
    obtain rfl : i = n := by omega
    rw [laws_heldInt64S.l0, if_neg (by rw [tabG_length]; omega)]
  | succ d ih =>
    intro k i hi hk
    obtain ⟨k, rfl⟩ : ∃ n, k = n + 1 := ⟨k - 1, by omega⟩
    have e : rd (tabG (fun j : Nat => v + (j : Int)) n) (i : Int) = v + (i : Int) := by
      have hi : i < n := by omega
      simp [rd, tabG, List.getD_eq_getElem?_getD, hi]
    have e2 : ((i + 1 : Nat) : Int) = (i : Int) + 1 := by omega
    have g := ih k (i + 1) (by omega) (by omega)
    rw [e2, ← Int.add_assoc] at g
    rw [laws_heldInt64S.l0, if_pos (by rw [tabG_length]; omega), if_pos (by omega), e, if_pos rfl, w64 (n := v + (i : Int) + 1) (by omega) (by omega), w64 (by omega) (by omega)]
    exact g
theorem heldInt64_f (v : Int) (v0 : 0 ≤ v) (v1 : v ≤ 100000000) (n : Nat) (hl : n ≤ 1048576) (k : Nat) (hk : n < k) : laws_heldInt64S.f k (tabG (fun j : Nat => v + (j : Int)) n) v = some (v + (n : Int)) := by
  have e := heldInt64_l v v0 v1 n hl n k 0 (by omega) hk
  have e0 : v + ((0 : Nat) : Int) = v := by omega
  rw [e0] at e
  exact e
theorem mt_l (d : Nat) : ∀ (v : Int) (s : ByteArray), 0 ≤ v → v ≤ 9223372036854775807 → v < (10 : Int) ^ d → s.size + d ≤ 1000 → ∃ t, ∀ k, d < k → laws_markText.l0 k v s = some t := by
  induction d with
  | zero =>
    intro v s h0 hm h1 hs
    have hv : v = 0 := by simp at h1; omega
    subst hv
    refine ⟨(⟨#[109]⟩ : ByteArray) ++ s, fun k hk => ?_⟩
    obtain ⟨k, rfl⟩ : ∃ q, k = q + 1 := ⟨k - 1, by omega⟩
    rw [laws_markText.l0, if_neg (by omega), if_pos (by omega)]
  | succ d ih =>
    intro v s h0 hm h1 hs
    by_cases c : v > 0
    · have hlt : v / 10 < (10 : Int) ^ d := by
        rw [Int.pow_succ] at h1
        exact Int.ediv_lt_of_lt_mul (by decide) h1
      have hd : Int.tdiv v 10 = v / 10 := Int.tdiv_eq_ediv_of_nonneg h0
      have hw : wrap64 (Int.tdiv v 10) = v / 10 := by rw [hd]; exact w64 (by omega) (by omega)
      obtain ⟨t, ht⟩ := ih (v / 10) ((strOfNums [(wrap64 (48 + (Int.tmod v 10))) % 256]) ++ s) (by omega) (by omega) hlt (by rw [ByteArray.size_append, strOfNums_size]; simp; omega)
      refine ⟨t, fun k hk => ?_⟩
      obtain ⟨k, rfl⟩ : ∃ q, k = q + 1 := ⟨k - 1, by omega⟩
      rw [laws_markText.l0, if_pos c]
      simp only [Option.bind_some]
      rw [if_pos (by rw [strOfNums_size]; simp; omega), hw]
      exact ht k (by omega)
    · have hv : v = 0 := by omega
      subst hv
      refine ⟨(⟨#[109]⟩ : ByteArray) ++ s, fun k hk => ?_⟩
      obtain ⟨k, rfl⟩ : ∃ q, k = q + 1 := ⟨k - 1, by omega⟩
      rw [laws_markText.l0, if_neg (by omega), if_pos (by omega)]
def markT (v : Int) : ByteArray := (laws_markText.f 40 v).getD ByteArray.empty
theorem markT_f (v : Int) (h1 : v ≤ 1000000000000000) (k : Nat) (hk : 30 < k) : laws_markText.f k v = some (markT v) := by
  unfold markT laws_markText.f
  by_cases c : v ≤ 0
  · rw [if_pos c, if_pos c]
    rfl
  · rw [if_neg c, if_neg c]
    obtain ⟨t, ht⟩ := mt_l 16 v ⟨#[]⟩ (by omega) (by omega) (by rw [show ((10 : Int) ^ 16) = 10000000000000000 from by decide]; omega) (by decide)
    rw [ht k (by omega), ht 40 (by omega)]
    rfl
def mkS (v : Int) (j : Nat) : ByteArray := markT (v + (j : Int))
theorem markS_l (v : Int) (v0 : 0 ≤ v) (v1 : v ≤ 100000000000000) (l : List ByteArray) (hl : l.length ≤ 1048576) (d : Nat) : ∀ (k i : Nat), i + d = l.length → d + 40 < k → laws_markStringS.l0 k (tabG (mkS v) i ++ l.drop i) (v + (i : Int)) (i : Int) = some (v + (l.length : Int), tabG (mkS v) l.length) := by
  induction d with
  | zero =>
    intro k i hi hk
    obtain ⟨k, rfl⟩ : ∃ q, k = q + 1 := ⟨k - 1, by omega⟩
    obtain rfl : i = l.length := by omega
    rw [laws_markStringS.l0, if_neg (by rw [List.length_append, tabG_length]; simp), List.drop_eq_nil_of_le (Nat.le_refl _), List.append_nil]
  | succ d ih =>
    intro k i hi hk
    obtain ⟨k, rfl⟩ : ∃ q, k = q + 1 := ⟨k - 1, by omega⟩
    have t : ((i : Int)).toNat = i := by omega
    have hlt : i < l.length := by omega
    have e := ih k (i + 1) (by omega) (by omega)
    have e2 : ((i + 1 : Nat) : Int) = (i : Int) + 1 := by omega
    have hset : (tabG (mkS v) i ++ l.drop i).set i (markT (v + (i : Int))) = tabG (mkS v) (i + 1) ++ l.drop (i + 1) := by
      rw [List.set_append_right _ _ (by rw [tabG_length]; exact Nat.le_refl _), tabG_length, Nat.sub_self, List.drop_eq_getElem_cons hlt, List.set_cons_zero, tabG_succ, List.append_assoc]
      rfl
    rw [e2, ← hset, ← Int.add_assoc] at e
    rw [laws_markStringS.l0, if_pos (by rw [List.length_append, tabG_length, List.length_drop]; omega), markT_f _ (by omega) k (by omega)]
    simp only [Option.bind_some]
    rw [if_pos (by omega), t, w64 (n := v + (i : Int) + 1) (by omega) (by omega), w64 (n := (i : Int) + 1) (by omega) (by omega)]
    exact e
theorem markS_f (v : Int) (v0 : 0 ≤ v) (v1 : v ≤ 100000000000000) (l : List ByteArray) (hl : l.length ≤ 1048576) (k : Nat) (hk : l.length + 40 < k) : laws_markStringS.f k l v = some (v + (l.length : Int), tabG (mkS v) l.length) := by
  have e := markS_l v v0 v1 l hl l.length k 0 (by omega) hk
  have e0 : v + ((0 : Nat) : Int) = v := by omega
  rw [e0] at e
  exact e
def blkM (v : Int) (x : S91) : S91 := ⟨v, v + 1, (Int.tmod (v + 1 + 1) 3 == 0), tabG (mkS (v + 1 + 1 + 1)) x.f3.length⟩
def mkB : Int → List S91 → List S91
  | _, [] => []
  | v, x :: t => blkM v x :: mkB (v + 1 + 1 + 1 + (x.f3.length : Int)) t
def endB : Int → List S91 → Int
  | v, [] => v
  | v, x :: t => endB (v + 1 + 1 + 1 + (x.f3.length : Int)) t
theorem endB_ge (l : List S91) : ∀ v, v ≤ endB v l := by
  induction l with
  | nil => intro v; exact Int.le_refl _
  | cons x t ih =>
    intro v
    have := ih (v + 1 + 1 + 1 + (x.f3.length : Int))
    show v ≤ endB (v + 1 + 1 + 1 + (x.f3.length : Int)) t
    omega
theorem endB_le (l : List S91) (hs : ∀ x ∈ l, x.f3.length ≤ 1048576) : ∀ v, endB v l ≤ v + 1048579 * (l.length : Int) := by
  induction l with
  | nil => intro v; show v ≤ _; simp
  | cons x t ih =>
    intro v
    have h1 := ih (fun y hy => hs y (List.mem_cons_of_mem _ hy)) (v + 1 + 1 + 1 + (x.f3.length : Int))
    have h2 := hs x List.mem_cons_self
    show endB (v + 1 + 1 + 1 + (x.f3.length : Int)) t ≤ _
    rw [List.length_cons]
    omega
theorem mkB_length (l : List S91) : ∀ v, (mkB v l).length = l.length := by
  induction l with
  | nil => intro v; rfl
  | cons x t ih => intro v; rw [mkB, List.length_cons, ih, List.length_cons]
theorem markB_l (t : List S91) : ∀ (dn : List S91) (v : Int) (k : Nat), 0 ≤ v → endB v t ≤ 10000000000000 → (∀ x ∈ t, x.f3.length ≤ 1048576) → dn.length + t.length ≤ 1048576 → t.length + 1048700 < k → laws_markBlockS.l0 k (dn ++ t) v (dn.length : Int) = some (endB v t, dn ++ mkB v t) := by
  induction t with
  | nil =>
    intro dn v k h0 h1 hs hl hk
    obtain ⟨k, rfl⟩ : ∃ q, k = q + 1 := ⟨k - 1, by omega⟩
    rw [laws_markBlockS.l0, if_neg (by simp)]
    rfl
  | cons x t ih =>
    intro dn v k h0 h1 hs hl hk
    obtain ⟨k, rfl⟩ : ∃ q, k = q + 1 := ⟨k - 1, by omega⟩
    have hx := hs x List.mem_cons_self
    have hge := endB_ge t (v + 1 + 1 + 1 + (x.f3.length : Int))
    have h1' : endB (v + 1 + 1 + 1 + (x.f3.length : Int)) t ≤ 10000000000000 := h1
    rw [List.length_cons] at hl hk
    have tn : ((dn.length : Int)).toNat = dn.length := by omega
    have hg : (dn ++ x :: t).getD dn.length z91 = x := by
      simp [List.getD_eq_getElem?_getD]
    have hset : (dn ++ x :: t).set dn.length (blkM v x) = (dn ++ [blkM v x]) ++ t := by
      rw [List.set_append_right _ _ (Nat.le_refl _), Nat.sub_self, List.set_cons_zero]
      simp
    have e := ih (dn ++ [blkM v x]) (v + 1 + 1 + 1 + (x.f3.length : Int)) k (by omega) h1' (fun y hy => hs y (List.mem_cons_of_mem _ hy)) (by simp; omega) (by omega)
    have el : ((dn ++ [blkM v x]).length : Int) = (dn.length : Int) + 1 := by simp
    rw [el] at e
    rw [laws_markBlockS.l0, if_pos (by simp; omega), if_pos (by omega), tn, hg, w64 (n := v + 1) (by omega) (by omega), w64 (n := v + 1 + 1) (by omega) (by omega), w64 (n := v + 1 + 1 + 1) (by omega) (by omega), markS_f (v + 1 + 1 + 1) (by omega) (by omega) x.f3 hx k (by omega)]
    simp only [Option.bind_some]
    rw [w64 (n := (dn.length : Int) + 1) (by omega) (by omega)]
    have hb : (⟨v, v + 1, (Int.tmod (v + 1 + 1) 3 == 0), tabG (mkS (v + 1 + 1 + 1)) x.f3.length⟩ : S91) = blkM v x := rfl
    rw [hb, hset, e]
    simp [mkB, endB]
theorem markB_f (l : List S91) (hl : l.length ≤ 1048576) (hs : ∀ x ∈ l, x.f3.length ≤ 1048576) (k : Nat) (hk : 2200000 < k) : laws_markBlockS.f k l 1 = some (endB 1 l, mkB 1 l) := by
  have e := markB_l l [] 1 k (by omega) (by have := endB_le l hs 1; omega) hs (by simp; omega) (by omega)
  exact e
def scanL (lim : Int) : List S91 → Nat → List Int
  | [], _ => []
  | x :: t, i => if x.f2 = true ∨ x.f0 ≥ lim then (i : Int) :: scanL lim t (i + 1) else scanL lim t (i + 1)
theorem scanL_length (lim : Int) (l : List S91) : ∀ i, (scanL lim l i).length ≤ l.length := by
  induction l with
  | nil => intro i; exact Nat.le_refl _
  | cons x t ih =>
    intro i
    have := ih (i + 1)
    unfold scanL
    split
    · rw [List.length_cons, List.length_cons]; omega
    · rw [List.length_cons]; omega
theorem rdB (l : List S91) (i : Nat) (h : i < l.length) : rd_T91 l (i : Int) = l[i] := by simp [rd_T91, List.getD_eq_getElem?_getD, h]
theorem impl_sc (lim : Int) (l : List S91) (hl : l.length ≤ 1048576) (d : Nat) : ∀ (k i : Nat) (acc : List Int), i + d = l.length → d < k → acc.length ≤ i → impl_ScanBadBlocks.l0 k lim acc l (l.length : Int) (i : Int) = some (acc ++ scanL lim (l.drop i) i) := by
  induction d with
  | zero =>
    intro k i acc hi hk ha
    obtain ⟨k, rfl⟩ : ∃ q, k = q + 1 := ⟨k - 1, by omega⟩
    rw [impl_ScanBadBlocks.l0, if_neg (by omega), List.drop_eq_nil_of_le (by omega)]
    simp [scanL]
  | succ d ih =>
    intro k i acc hi hk ha
    obtain ⟨k, rfl⟩ : ∃ q, k = q + 1 := ⟨k - 1, by omega⟩
    have hlt : i < l.length := by omega
    have e2 : ((i + 1 : Nat) : Int) = (i : Int) + 1 := by omega
    have e1 := ih k (i + 1) (acc ++ [(i : Int)]) (by omega) (by omega) (by simp; omega)
    have e3 := ih k (i + 1) acc (by omega) (by omega) (by omega)
    rw [e2] at e1 e3
    rw [impl_ScanBadBlocks.l0, if_pos (by omega), if_pos (by omega), if_pos (by omega), rdB l i hlt, w64 (n := (i : Int) + 1) (by omega) (by omega), List.drop_eq_getElem_cons hlt, scanL]
    by_cases c1 : l[i].f2 = true
    · rw [if_pos c1, if_pos (by omega), if_pos (Or.inl c1), e1]
      simp
    · rw [if_neg c1]
      by_cases c2 : l[i].f0 ≥ lim
      · rw [if_pos c2, if_pos (by omega), if_pos (Or.inr c2), e1]
        simp
      · rw [if_neg c2, if_neg (fun h => h.elim c1 c2), e3]
theorem spec_sc (a0 a1 a2 : Int) (l : List S91) (a4 a5 : Int) (a6 : Bool) (a7 lim : Int) (hl : l.length ≤ 1048576) (hv : ∀ k, 3000000 < k → spec_ValidFlash.f k a0 a1 a2 l a4 a5 a6 a7 = some true) (d : Nat) : ∀ (k i : Nat) (acc : List Int), i + d = l.length → 2 * d + 3000010 < k → acc.length ≤ i → spec_ScanBadBlocks.l0 k lim acc (i : Int) a0 a1 a2 l a4 a5 a6 a7 = some (acc ++ scanL lim (l.drop i) i) := by
  induction d with
  | zero =>
    intro k i acc hi hk ha
    obtain ⟨k, rfl⟩ : ∃ q, k = q + 2 := ⟨k - 2, by omega⟩
    rw [show k + 2 = k + 1 + 1 from rfl, spec_ScanBadBlocks.l0, if_neg (by omega), spec_ScanBadBlocks.j1, if_neg (by simp), List.drop_eq_nil_of_le (by omega)]
    simp [scanL]
  | succ d ih =>
    intro k i acc hi hk ha
    obtain ⟨k, rfl⟩ : ∃ q, k = q + 2 := ⟨k - 2, by omega⟩
    have hlt : i < l.length := by omega
    have e2 : ((i + 1 : Nat) : Int) = (i : Int) + 1 := by omega
    have e1 := ih k (i + 1) (acc ++ [(i : Int)]) (by omega) (by omega) (by simp; omega)
    have e3 := ih k (i + 1) acc (by omega) (by omega) (by omega)
    rw [e2] at e1 e3
    rw [show k + 2 = k + 1 + 1 from rfl, spec_ScanBadBlocks.l0, if_pos (by omega), hv (k + 1) (by omega)]
    simp only [Option.bind_some]
    rw [spec_ScanBadBlocks.j1, if_pos rfl, if_pos (by omega), if_pos (by omega), rdB l i hlt, w64 (n := (i : Int) + 1) (by omega) (by omega), List.drop_eq_getElem_cons hlt, scanL]
    by_cases c1 : l[i].f2 = true
    · rw [if_pos c1, if_pos (by omega), if_pos (Or.inl c1), e1]
      simp
    · rw [if_neg c1]
      by_cases c2 : l[i].f0 ≥ lim
      · rw [if_pos c2, if_pos (by omega), if_pos (Or.inr c2), e1]
        simp
      · rw [if_neg c2, if_neg (fun h => h.elim c1 c2), e3]
theorem scan_both (a0 a1 a2 : Int) (l : List S91) (a4 a5 : Int) (a6 : Bool) (a7 lim : Int) (hl : l.length ≤ 1048576) (hs : ∀ x ∈ l, x.f3.length ≤ 1048576) :
    ∃ R : List Int, R.length ≤ 1048576 ∧ (∀ k, 6000000 < k → spec_ScanBadBlocks.f k a0 a1 a2 l a4 a5 a6 a7 lim = some R) ∧ (∀ k, 6000000 < k → impl_ScanBadBlocks.f k a0 a1 a2 l a4 a5 a6 a7 lim = some R) := by
  obtain ⟨r, hr1, hr2⟩ := vflash a0 a1 a2 l a4 a5 a6 a7 hl hs 4000000 (by omega)
  have hv : ∀ k, 3000000 < k → spec_ValidFlash.f k a0 a1 a2 l a4 a5 a6 a7 = some r := fun k hk => by
    obtain ⟨r', h1, h2⟩ := vflash a0 a1 a2 l a4 a5 a6 a7 hl hs k hk
    rw [hr2] at h2
    rw [h1, Option.some.inj h2]
  cases r with
  | false =>
    refine ⟨[], by simp, fun k hk => ?_, fun k hk => ?_⟩
    · unfold spec_ScanBadBlocks.f
      obtain ⟨k, rfl⟩ : ∃ q, k = q + 2 := ⟨k - 2, by omega⟩
      rw [show k + 2 = k + 1 + 1 from rfl, spec_ScanBadBlocks.l0]
      split
      · rw [hv (k + 1) (by omega)]
        simp only [Option.bind_some]
        rw [spec_ScanBadBlocks.j1, if_neg (by simp)]
      · rw [spec_ScanBadBlocks.j1, if_neg (by simp)]
    · unfold impl_ScanBadBlocks.f
      rw [hr2]
      rfl
  | true =>
    refine ⟨scanL lim l 0, Nat.le_trans (scanL_length lim l 0) hl, fun k hk => ?_, fun k hk => ?_⟩
    · have e := spec_sc a0 a1 a2 l a4 a5 a6 a7 lim hl hv l.length k 0 [] (by omega) (by omega) (by simp)
      exact e
    · unfold impl_ScanBadBlocks.f
      rw [hr2]
      have e := impl_sc lim l hl l.length k 0 [] (by omega) (by omega) (by simp)
      exact e
theorem FnExactScanBadBlocks : laws_FnExactScanBadBlocks.Pure := by
  intro a0 a1 a2 l a4 a5 a6 a7 lim _ _ _ hl _ _ _ _
  have hb : ∀ x ∈ l, okB x := fun x hx => ⟨(hl.2 x hx).2.2.2.1, (hl.2 x hx).2.2.2.2⟩
  refine ⟨8000000, ?_⟩
  unfold laws_FnExactScanBadBlocks.f
  obtain ⟨n, e1, h1, g1⟩ := sz_flash a0 a1 a2 l a4 a5 a6 a7 hl.1 hb 1048576 (by omega) (by omega) 8000000 (by omega)
  rw [e1]
  simp only [Option.bind_some]
  by_cases c : n < 0
  · rw [if_pos c]
  · rw [if_neg c]
    obtain ⟨g2, g3⟩ := g1 (by omega)
    obtain ⟨y1, y2⟩ := cv_len l g2 g3
    obtain ⟨R, hR, s1, s2⟩ := scan_both a0 a1 a2 (l.map cvB) a4 a5 a6 a7 lim y1 y2
    have t1 := to_flash a0 a1 a2 l a4 a5 a6 a7 g2 g3 8000000 (by omega)
    have q1 := laws_eqInt64S_f R hR 8000000 (by omega)
    rw [t1]
    simp only [Option.bind_some]
    rw [s1 8000000 (by omega), s2 8000000 (by omega)]
    simp only [Option.bind_some]
    rw [q1]
    simp only [Option.bind_some, if_true]
    rw [eq_flash a0 a1 a2 _ a4 a5 a6 a7 y1 y2 8000000 (by omega)]
    simp only [Option.bind_some, if_true]
    have m1 : laws_markFlash.f 8000000 a0 a1 a2 (l.map cvB) a4 a5 a6 a7 1 = some (endB 1 (l.map cvB), mkB 1 (l.map cvB)) := markB_f (l.map cvB) y1 y2 8000000 (by omega)
    rw [m1]
    simp only [Option.bind_some]
    have hge := endB_ge (l.map cvB) 1
    rw [if_neg (by omega), show (!true) = false from rfl, show (8000000 : Nat) = 7999999 + 1 from rfl, laws_FnExactScanBadBlocks.j0, if_neg (by simp), markInt64_f 1 (by omega) (by omega) R (by omega) 7999999 (by omega)]
    simp only [Option.bind_some]
    rw [heldInt64_f 1 (by omega) (by omega) R.length (by omega) 7999999 (by omega)]
    simp only [Option.bind_some]
    rw [if_neg (by omega), if_pos trivial, to_flash a0 a1 a2 l a4 a5 a6 a7 g2 g3 7999999 (by omega)]
    simp only [Option.bind_some]
    rw [s2 7999999 (by omega)]
    simp only [Option.bind_some]
    rw [laws_eqInt64S_f R hR 7999999 (by omega)]
    simp only [Option.bind_some, if_true]
    rw [if_neg (by omega)]

end Go.Proofs.Ytchpgjhbmeokaaa.Pure
