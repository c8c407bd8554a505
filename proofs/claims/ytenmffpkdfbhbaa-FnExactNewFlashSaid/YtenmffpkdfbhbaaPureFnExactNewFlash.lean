/- The pure statement of FnExactNewFlash holds. No condition beyond the row's bounds. -/
import Derived.Test.YtenmffpkdfbhbaaQFnExactNewFlashx5
import Derived.Test.YtenmffpkdfbhbaaLem
import Derived.Test.YtenmffpkdfbhbaaGen
import Derived.Test.YtenmffpkdfbhbaaHand
namespace Go.Proofs.Ytenmffpkdfbhbaa.Pure
open Go.RowKit Go.Proofs.Ytenmffpkdfbhbaa.QFnExactNewFlash Go.Proofs.YtenmffpkdfbhbaaW.PrintWords Go.Proofs.YtenmffpkdfbhbaaW.PrintLast
open Go.Proofs.Ytenmffpkdfbhbaa.Lem Go.Proofs.Ytenmffpkdfbhbaa.Gen Go.Proofs.Ytenmffpkdfbhbaa.Hand
theorem laws_eqStringS_l (l : List ByteArray) (hl : l.length ≤ 1048576) (d : Nat) : ∀ (k i : Nat), i + d = l.length → d < k → laws_eqStringS.l0 k l l (i : Int) = some true := by
  induction d with
  | zero =>
    intro k i hi hk
    obtain ⟨k, rfl⟩ : ∃ n, k = n + 1 := ⟨k - 1, by omega⟩
    rw [laws_eqStringS.l0, if_neg (by omega)]
  | succ d ih =>
    intro k i hi hk
    obtain ⟨k, rfl⟩ : ∃ n, k = n + 1 := ⟨k - 1, by omega⟩
    rw [laws_eqStringS.l0, if_pos (by omega), if_pos (by omega), if_pos (by omega)]
    rw [if_pos rfl]
    rw [w64 (by omega) (by omega)]
    exact ih k (i + 1) (by omega) (by omega)
theorem laws_eqStringS_f (l : List ByteArray) (hl : l.length ≤ 1048576) (k : Nat) (hk : l.length < k) : laws_eqStringS.f k l l = some true := by
  unfold laws_eqStringS.f
  rw [if_pos rfl]
  exact laws_eqStringS_l l hl l.length k 0 (by omega) hk

theorem eq_blk_l (l : List S110) (hl : l.length ≤ 1048576) (hs : ∀ x ∈ l, x.f3.length ≤ 1048576) (d : Nat) : ∀ (k i : Nat), i + d = l.length → d + 1048580 < k → laws_eqBlockS.l0 k l l (i : Int) = some true := by
  induction d with
  | zero =>
    intro k i hi hk
    obtain ⟨k, rfl⟩ : ∃ n, k = n + 1 := ⟨k - 1, by omega⟩
    rw [laws_eqBlockS.l0, if_neg (by omega)]
  | succ d ih =>
    intro k i hi hk
    obtain ⟨k, rfl⟩ : ∃ n, k = n + 1 := ⟨k - 1, by omega⟩
    have hlt : i < l.length := by omega
    have er : rd_T110 l (i : Int) = l[i] := by simp [rd_T110, List.getD_eq_getElem?_getD, hlt]
    have hz := hs _ (List.getElem_mem hlt)
    have e := ih k (i + 1) (by omega) (by omega)
    have e2 : ((i + 1 : Nat) : Int) = (i : Int) + 1 := by omega
    rw [e2] at e
    rw [laws_eqBlockS.l0, if_pos (by omega), if_pos (by omega), if_pos (by omega), er]
    unfold laws_eqBlock.f
    rw [if_pos rfl, if_pos rfl, if_neg (by simp), laws_eqStringS_f _ hz k (by omega)]
    simp only [Option.bind_some, if_true]
    rw [w64 (by omega) (by omega)]
    exact e
theorem eq_blk (l : List S110) (hl : l.length ≤ 1048576) (hs : ∀ x ∈ l, x.f3.length ≤ 1048576) (k : Nat) (hk : 3000000 < k) : laws_eqBlockS.f k l l = some true := by
  unfold laws_eqBlockS.f
  rw [if_pos rfl]
  exact eq_blk_l l hl hs l.length k 0 (by omega) (by omega)
theorem in_spec (x lo hi : Int) : spec_l00In.f x lo hi = some (inB x lo hi) := by
  unfold spec_l00In.f inB
  by_cases h : x ≥ lo
  · rw [if_pos h, decide_eq_true (p := lo ≤ x) h, Bool.true_and]
  · rw [if_neg h, decide_eq_false (p := lo ≤ x) h, Bool.false_and]
theorem in_impl (x lo hi : Int) : impl_within.f x lo hi = some (inB x lo hi) := by
  unfold impl_within.f inB
  by_cases h : x ≥ lo
  · rw [if_pos h, decide_eq_true (p := lo ≤ x) h, Bool.true_and]
  · rw [if_neg h, decide_eq_false (p := lo ≤ x) h, Bool.false_and]
theorem inB_iff (x lo hi : Int) : inB x lo hi = true ↔ lo ≤ x ∧ x ≤ hi := by
  unfold inB
  simp
theorem mt_l (d : Nat) : ∀ (v : Int) (s : ByteArray), 0 ≤ v → v ≤ 9223372036854775807 → v < (10 : Int) ^ d → s.size + d ≤ 1000 → ∃ t, ∀ k, d < k → laws_markText.l0 k v s = some t := by
  induction d with
  | zero =>
    intro v s h0 hm h1 hs
    have hv : v = 0 := by simp at h1; omega
    subst hv
    refine ⟨(⟨#[109]⟩ : ByteArray) ++ s, fun k hk => ?_⟩
    obtain ⟨k, rfl⟩ : ∃ q, k = q + 1 := ⟨k - 1, by omega⟩
    rw [laws_markText.l0, if_neg (by omega), if_pos (by omega)]
  | succ d ih =>
    intro v s h0 hm h1 hs
    by_cases c : v > 0
    · have hlt : v / 10 < (10 : Int) ^ d := by
        rw [Int.pow_succ] at h1
        exact Int.ediv_lt_of_lt_mul (by decide) h1
      have hd : Int.tdiv v 10 = v / 10 := Int.tdiv_eq_ediv_of_nonneg h0
      have hw : wrap64 (Int.tdiv v 10) = v / 10 := by rw [hd]; exact w64 (by omega) (by omega)
      obtain ⟨t, ht⟩ := ih (v / 10) ((strOfNums [(wrap64 (48 + (Int.tmod v 10))) % 256]) ++ s) (by omega) (by omega) hlt (by rw [ByteArray.size_append, strOfNums_size]; simp; omega)
      refine ⟨t, fun k hk => ?_⟩
      obtain ⟨k, rfl⟩ : ∃ q, k = q + 1 := ⟨k - 1, by omega⟩
      rw [laws_markText.l0, if_pos c]
      simp only [Option.bind_some]
      rw [if_pos (by rw [strOfNums_size]; simp; omega), hw]
      exact ht k (by omega)
    · have hv : v = 0 := by omega
      subst hv
      refine ⟨(⟨#[109]⟩ : ByteArray) ++ s, fun k hk => ?_⟩
      obtain ⟨k, rfl⟩ : ∃ q, k = q + 1 := ⟨k - 1, by omega⟩
      rw [laws_markText.l0, if_neg (by omega), if_pos (by omega)]
def markT (v : Int) : ByteArray := (laws_markText.f 40 v).getD ByteArray.empty
theorem markT_f (v : Int) (h1 : v ≤ 1000000000000000) (k : Nat) (hk : 30 < k) : laws_markText.f k v = some (markT v) := by
  unfold markT laws_markText.f
  by_cases c : v ≤ 0
  · rw [if_pos c, if_pos c]
    rfl
  · rw [if_neg c, if_neg c]
    obtain ⟨t, ht⟩ := mt_l 16 v ⟨#[]⟩ (by omega) (by omega) (by rw [show ((10 : Int) ^ 16) = 10000000000000000 from by decide]; omega) (by decide)
    rw [ht k (by omega), ht 40 (by omega)]
    rfl
def mkS (v : Int) (j : Nat) : ByteArray := markT (v + (j : Int))
theorem markS_l (v : Int) (v0 : 0 ≤ v) (v1 : v ≤ 100000000000000) (l : List ByteArray) (hl : l.length ≤ 1048576) (d : Nat) : ∀ (k i : Nat), i + d = l.length → d + 40 < k → laws_markStringS.l0 k (tabG (mkS v) i ++ l.drop i) (v + (i : Int)) (i : Int) = some (v + (l.length : Int), tabG (mkS v) l.length) := by
  induction d with
  | zero =>
    intro k i hi hk
    obtain ⟨k, rfl⟩ : ∃ q, k = q + 1 := ⟨k - 1, by omega⟩
    obtain rfl : i = l.length := by omega
    rw [laws_markStringS.l0, if_neg (by rw [List.length_append, tabG_length]; simp), List.drop_eq_nil_of_le (Nat.le_refl _), List.append_nil]
  | succ d ih =>
    intro k i hi hk
    obtain ⟨k, rfl⟩ : ∃ q, k = q + 1 := ⟨k - 1, by omega⟩
    have t : ((i : Int)).toNat = i := by omega
    have hlt : i < l.length := by omega
    have e := ih k (i + 1) (by omega) (by omega)
    have e2 : ((i + 1 : Nat) : Int) = (i : Int) + 1 := by omega
    have hset : (tabG (mkS v) i ++ l.drop i).set i (markT (v + (i : Int))) = tabG (mkS v) (i + 1) ++ l.drop (i + 1) := by
      rw [List.set_append_right _ _ (by rw [tabG_length]; exact Nat.le_refl _), tabG_length, Nat.sub_self, List.drop_eq_getElem_cons hlt, List.set_cons_zero, tabG_succ, List.append_assoc]
      rfl
    rw [e2, ← hset, ← Int.add_assoc] at e
    rw [laws_markStringS.l0, if_pos (by rw [List.length_append, tabG_length, List.length_drop]; omega), markT_f _ (by omega) k (by omega)]
    simp only [Option.bind_some]
    rw [if_pos (by omega), t, w64 (n := v + (i : Int) + 1) (by omega) (by omega), w64 (n := (i : Int) + 1) (by omega) (by omega)]
    exact e
theorem markS_f (v : Int) (v0 : 0 ≤ v) (v1 : v ≤ 100000000000000) (l : List ByteArray) (hl : l.length ≤ 1048576) (k : Nat) (hk : l.length + 40 < k) : laws_markStringS.f k l v = some (v + (l.length : Int), tabG (mkS v) l.length) := by
  have e := markS_l v v0 v1 l hl l.length k 0 (by omega) hk
  have e0 : v + ((0 : Nat) : Int) = v := by omega
  rw [e0] at e
  exact e
def blkM (v : Int) (x : S110) : S110 := ⟨v, v + 1, (Int.tmod (v + 1 + 1) 3 == 0), tabG (mkS (v + 1 + 1 + 1)) x.f3.length⟩
def mkB : Int → List S110 → List S110
  | _, [] => []
  | v, x :: t => blkM v x :: mkB (v + 1 + 1 + 1 + (x.f3.length : Int)) t
def endB : Int → List S110 → Int
  | v, [] => v
  | v, x :: t => endB (v + 1 + 1 + 1 + (x.f3.length : Int)) t
theorem endB_ge (l : List S110) : ∀ v, v ≤ endB v l := by
  induction l with
  | nil => intro v; exact Int.le_refl _
  | cons x t ih =>
    intro v
    have := ih (v + 1 + 1 + 1 + (x.f3.length : Int))
    show v ≤ endB (v + 1 + 1 + 1 + (x.f3.length : Int)) t
    omega
theorem endB_le (l : List S110) (hs : ∀ x ∈ l, x.f3.length ≤ 1048576) : ∀ v, endB v l ≤ v + 1048579 * (l.length : Int) := by
  induction l with
  | nil => intro v; show v ≤ _; simp
  | cons x t ih =>
    intro v
    have h1 := ih (fun y hy => hs y (List.mem_cons_of_mem _ hy)) (v + 1 + 1 + 1 + (x.f3.length : Int))
    have h2 := hs x List.mem_cons_self
    show endB (v + 1 + 1 + 1 + (x.f3.length : Int)) t ≤ _
    rw [List.length_cons]
    omega
theorem mkB_length (l : List S110) : ∀ v, (mkB v l).length = l.length := by
  induction l with
  | nil => intro v; rfl
  | cons x t ih => intro v; rw [mkB, List.length_cons, ih, List.length_cons]
theorem markB_l (t : List S110) : ∀ (dn : List S110) (v : Int) (k : Nat), 0 ≤ v → endB v t ≤ 10000000000000 → (∀ x ∈ t, x.f3.length ≤ 1048576) → dn.length + t.length ≤ 1048576 → t.length + 1048700 < k → laws_markBlockS.l0 k (dn ++ t) v (dn.length : Int) = some (endB v t, dn ++ mkB v t) := by
  induction t with
  | nil =>
    intro dn v k h0 h1 hs hl hk
    obtain ⟨k, rfl⟩ : ∃ q, k = q + 1 := ⟨k - 1, by omega⟩
    rw [laws_markBlockS.l0, if_neg (by simp)]
    rfl
  | cons x t ih =>
    intro dn v k h0 h1 hs hl hk
    obtain ⟨k, rfl⟩ : ∃ q, k = q + 1 := ⟨k - 1, by omega⟩
    have hx := hs x List.mem_cons_self
    have hge := endB_ge t (v + 1 + 1 + 1 + (x.f3.length : Int))
    have h1' : endB (v + 1 + 1 + 1 + (x.f3.length : Int)) t ≤ 10000000000000 := h1
    rw [List.length_cons] at hl hk
    have tn : ((dn.length : Int)).toNat = dn.length := by omega
    have hg : (dn ++ x :: t).getD dn.length z110 = x := by
      simp [List.getD_eq_getElem?_getD]
    have hset : (dn ++ x :: t).set dn.length (blkM v x) = (dn ++ [blkM v x]) ++ t := by
      rw [List.set_append_right _ _ (Nat.le_refl _), Nat.sub_self, List.set_cons_zero]
      simp
    have e := ih (dn ++ [blkM v x]) (v + 1 + 1 + 1 + (x.f3.length : Int)) k (by omega) h1' (fun y hy => hs y (List.mem_cons_of_mem _ hy)) (by simp; omega) (by omega)
    have el : ((dn ++ [blkM v x]).length : Int) = (dn.length : Int) + 1 := by simp
    rw [el] at e
    rw [laws_markBlockS.l0, if_pos (by simp; omega), if_pos (by omega), tn, hg, w64 (n := v + 1) (by omega) (by omega), w64 (n := v + 1 + 1) (by omega) (by omega), w64 (n := v + 1 + 1 + 1) (by omega) (by omega), markS_f (v + 1 + 1 + 1) (by omega) (by omega) x.f3 hx k (by omega)]
    simp only [Option.bind_some]
    rw [w64 (n := (dn.length : Int) + 1) (by omega) (by omega)]
    have hb : (⟨v, v + 1, (Int.tmod (v + 1 + 1) 3 == 0), tabG (mkS (v + 1 + 1 + 1)) x.f3.length⟩ : S110) = blkM v x := rfl
    rw [hb, hset, e]
    simp [mkB, endB]
theorem markB_f (l : List S110) (hl : l.length ≤ 1048576) (hs : ∀ x ∈ l, x.f3.length ≤ 1048576) (k : Nat) (hk : 2200000 < k) : laws_markBlockS.f k l 1 = some (endB 1 l, mkB 1 l) := by
  have e := markB_l l [] 1 k (by omega) (by have := endB_le l hs 1; omega) hs (by simp; omega) (by omega)
  exact e
theorem heldS_l (v : Int) (v0 : 0 ≤ v) (v1 : v ≤ 100000000000000) (n : Nat) (hn : n ≤ 1048576) (d : Nat) : ∀ (k i : Nat), i + d = n → d + 40 < k → laws_heldStringS.l0 k (tabG (mkS v) n) (v + (i : Int)) (i : Int) = some (v + (n : Int)) := by
  induction d with
  | zero =>
    intro k i hi hk
    obtain ⟨k, rfl⟩ : ∃ q, k = q + 1 := ⟨k - 1, by omega⟩
    obtain rfl : i = n := by omega
    rw [laws_heldStringS.l0, if_neg (by rw [tabG_length]; omega)]
  | succ d ih =>
    intro k i hi hk
    obtain ⟨k, rfl⟩ : ∃ q, k = q + 1 := ⟨k - 1, by omega⟩
    have e := ih k (i + 1) (by omega) (by omega)
    have e2 : ((i + 1 : Nat) : Int) = (i : Int) + 1 := by omega
    rw [e2, ← Int.add_assoc] at e
    have er : rdOf ByteArray.empty (tabG (mkS v) n) (i : Int) = markT (v + (i : Int)) := by
      have hlt : i < n := by omega
      simp [rdOf, tabG, mkS, List.getD_eq_getElem?_getD, hlt]
    rw [laws_heldStringS.l0, if_pos (by rw [tabG_length]; omega), if_pos (by omega), markT_f _ (by omega) k (by omega)]
    simp only [Option.bind_some]
    rw [er, if_pos rfl, w64 (n := v + (i : Int) + 1) (by omega) (by omega), w64 (n := (i : Int) + 1) (by omega) (by omega)]
    exact e
theorem heldS_f (v : Int) (v0 : 0 ≤ v) (v1 : v ≤ 100000000000000) (n : Nat) (hn : n ≤ 1048576) (k : Nat) (hk : n + 40 < k) : laws_heldStringS.f k (tabG (mkS v) n) v = some (v + (n : Int)) := by
  have e := heldS_l v v0 v1 n hn n k 0 (by omega) hk
  have e0 : v + ((0 : Nat) : Int) = v := by omega
  rw [e0] at e
  exact e
theorem heldB_l (t : List S110) : ∀ (dn : List S110) (v : Int) (k : Nat), 0 ≤ v → endB v t ≤ 10000000000000 → (∀ x ∈ t, x.f3.length ≤ 1048576) → dn.length + t.length ≤ 1048576 → t.length + 1048700 < k → laws_heldBlockS.l0 k (dn ++ mkB v t) v (dn.length : Int) = some (endB v t) := by
  induction t with
  | nil =>
    intro dn v k h0 h1 hs hl hk
    obtain ⟨k, rfl⟩ : ∃ q, k = q + 1 := ⟨k - 1, by omega⟩
    rw [laws_heldBlockS.l0, if_neg (by simp [mkB])]
    rfl
  | cons x t ih =>
    intro dn v k h0 h1 hs hl hk
    obtain ⟨k, rfl⟩ : ∃ q, k = q + 1 := ⟨k - 1, by omega⟩
    have hx := hs x List.mem_cons_self
    have hge := endB_ge t (v + 1 + 1 + 1 + (x.f3.length : Int))
    have h1' : endB (v + 1 + 1 + 1 + (x.f3.length : Int)) t ≤ 10000000000000 := h1
    rw [List.length_cons] at hl hk
    have hg : rd_T110 (dn ++ mkB v (x :: t)) (dn.length : Int) = blkM v x := by
      simp [rd_T110, mkB, List.getD_eq_getElem?_getD]
    have e := ih (dn ++ [blkM v x]) (v + 1 + 1 + 1 + (x.f3.length : Int)) k (by omega) h1' (fun y hy => hs y (List.mem_cons_of_mem _ hy)) (by simp; omega) (by omega)
    have el : ((dn ++ [blkM v x]).length : Int) = (dn.length : Int) + 1 := by simp
    have ea : dn ++ [blkM v x] ++ mkB (v + 1 + 1 + 1 + (x.f3.length : Int)) t = dn ++ mkB v (x :: t) := by simp [mkB]
    rw [el, ea] at e
    have hb0 : (blkM v x).f0 = v := rfl
    have hb1 : (blkM v x).f1 = v + 1 := rfl
    have hb2 : (blkM v x).f2 = (Int.tmod (v + 1 + 1) 3 == 0) := rfl
    have hb3 : (blkM v x).f3 = tabG (mkS (v + 1 + 1 + 1)) x.f3.length := rfl
    rw [laws_heldBlockS.l0, if_pos (by rw [List.length_append, mkB_length, List.length_cons]; omega), if_pos (by omega), hg, hb0, hb1, hb2, hb3, w64 (n := v + 1) (by omega) (by omega), w64 (n := v + 1 + 1) (by omega) (by omega), w64 (n := v + 1 + 1 + 1) (by omega) (by omega), if_pos rfl, if_pos rfl, if_neg (by simp), heldS_f (v + 1 + 1 + 1) (by omega) (by omega) x.f3.length hx k (by omega)]
    simp only [Option.bind_some]
    rw [if_neg (by omega), w64 (n := (dn.length : Int) + 1) (by omega) (by omega)]
    exact e
theorem heldB_f (l : List S110) (hl : l.length ≤ 1048576) (hs : ∀ x ∈ l, x.f3.length ≤ 1048576) (k : Nat) (hk : 2200000 < k) : laws_heldBlockS.f k (mkB 1 l) 1 = some (endB 1 l) := by
  have e := heldB_l l [] 1 k (by omega) (by have := endB_le l hs 1; omega) hs (by simp; omega) (by omega)
  exact e
theorem eq_flash (a0 a1 a2 : Int) (l : List S110) (a4 a5 : Int) (a6 : Bool) (a7 : Int) (hl : l.length ≤ 1048576) (hs : ∀ x ∈ l, x.f3.length ≤ 1048576) (k : Nat) (hk : 3000000 < k) : laws_eqFlash.f k a0 a1 a2 l a4 a5 a6 a7 a0 a1 a2 l a4 a5 a6 a7 = some true := by
  unfold laws_eqFlash.f laws_eqGeometry.f
  rw [if_pos rfl, if_pos rfl, if_pos rfl]
  simp only [Option.bind_some, if_true]
  rw [eq_blk _ hl hs k hk]
  simp
def geoB (a b c : Int) : Bool := inB a 2 3 && (inB b 4 12 && (c == 8 || c == 16))
theorem geo_spec (a b c : Int) : spec_ValidGeometry.f a b c = some (geoB a b c) := by
  unfold spec_ValidGeometry.f geoB
  rw [in_spec]
  simp only [Option.bind_some]
  cases inB a 2 3
  · simp
  · rw [if_pos rfl, in_spec]
    simp only [Option.bind_some]
    cases inB b 4 12
    · simp
    · rw [if_pos rfl]
      by_cases h : c = 8 <;> simp [h]
theorem geo_impl (a b c : Int) : impl_ValidGeometry.f a b c = some (geoB a b c) := by
  unfold impl_ValidGeometry.f geoB
  rw [in_impl]
  simp only [Option.bind_some]
  cases inB a 2 3
  · simp
  · rw [if_pos rfl, in_impl]
    simp only [Option.bind_some]
    cases inB b 4 12
    · simp
    · rw [if_pos rfl]
      by_cases h : c = 8 <;> simp [h]
theorem geo_bounds {a b c : Int} (h : geoB a b c = true) : 2 ≤ a ∧ a ≤ 3 ∧ 4 ≤ b ∧ b ≤ 12 ∧ (c = 8 ∨ c = 16) := by
  unfold geoB at h
  simp only [Bool.and_eq_true, Bool.or_eq_true, beq_iff_eq] at h
  have h1 := (inB_iff _ _ _).1 h.1
  have h2 := (inB_iff _ _ _).1 h.2.1
  exact ⟨h1.1, h1.2, h2.1, h2.2, h.2.2⟩
def blk0 (c : Int) : S110 := ⟨0, 0, false, List.replicate c.toNat (⟨#[]⟩ : ByteArray)⟩
theorem snoc0 (c : Int) (i : Nat) : List.replicate i (blk0 c) ++ [blk0 c] = List.replicate (i + 1) (blk0 c) := List.replicate_succ'.symm
theorem spec_l (a b c : Int) (n : Nat) (hn : a * b = (n : Int)) (hn2 : n ≤ 36) (c0 : 0 ≤ c) (c1 : c ≤ 16) (d : Nat) : ∀ (k i : Nat), i + d = n → d < k → spec_l06New.l0 k (i : Int) a b c a b c (List.replicate i (blk0 c)) (-1) 0 false 0 = some (a, b, c, List.replicate n (blk0 c), -1, 0, false, 0) := by
  induction d with
  | zero =>
    intro k i hi hk
    obtain ⟨k, rfl⟩ : ∃ q, k = q + 1 := ⟨k - 1, by omega⟩
    obtain rfl : i = n := by omega
    rw [spec_l06New.l0, hn, w64 (by omega) (by omega), if_neg (by omega)]
  | succ d ih =>
    intro k i hi hk
    obtain ⟨k, rfl⟩ : ∃ q, k = q + 1 := ⟨k - 1, by omega⟩
    have e := ih k (i + 1) (by omega) (by omega)
    have e2 : ((i + 1 : Nat) : Int) = (i : Int) + 1 := by omega
    rw [e2, ← snoc0] at e
    rw [spec_l06New.l0, hn, w64 (n := (n : Int)) (by omega) (by omega), if_pos (by omega), if_pos c0, if_pos (by omega), if_pos (by rw [List.length_replicate]; omega), w64 (n := (i : Int) + 1) (by omega) (by omega)]
    exact e
theorem impl_l (a b c : Int) (n : Nat) (hn2 : n ≤ 36) (c0 : 0 ≤ c) (c1 : c ≤ 16) (d : Nat) : ∀ (k i : Nat), i + d = n → d < k → impl_newFlash.l0 k (n : Int) (i : Int) a b c a b c (List.replicate i (blk0 c)) (-1) 0 false 0 = some (a, b, c, List.replicate n (blk0 c), -1, 0, false, 0) := by
  induction d with
  | zero =>
    intro k i hi hk
    obtain ⟨k, rfl⟩ : ∃ q, k = q + 1 := ⟨k - 1, by omega⟩
    obtain rfl : i = n := by omega
    rw [impl_newFlash.l0, if_neg (by omega)]
  | succ d ih =>
    intro k i hi hk
    obtain ⟨k, rfl⟩ : ∃ q, k = q + 1 := ⟨k - 1, by omega⟩
    have e := ih k (i + 1) (by omega) (by omega)
    have e2 : ((i + 1 : Nat) : Int) = (i : Int) + 1 := by omega
    rw [e2, ← snoc0] at e
    rw [impl_newFlash.l0, if_pos (by omega), if_pos c0, if_pos (by omega), if_pos (by rw [List.length_replicate]; omega), w64 (n := (i : Int) + 1) (by omega) (by omega)]
    exact e
theorem spec_f (a b c : Int) (n : Nat) (hn : a * b = (n : Int)) (hn2 : n ≤ 36) (c0 : 0 ≤ c) (c1 : c ≤ 16) (k : Nat) (hk : 40 < k) : spec_l06New.f k a b c = some (a, b, c, List.replicate n (blk0 c), -1, 0, false, 0) := spec_l a b c n hn hn2 c0 c1 n k 0 (by omega) (by omega)
theorem impl_f (a b c : Int) (n : Nat) (hn : a * b = (n : Int)) (hn2 : n ≤ 36) (c0 : 0 ≤ c) (c1 : c ≤ 16) (k : Nat) (hk : 40 < k) : impl_newFlash.f k a b c = some (a, b, c, List.replicate n (blk0 c), -1, 0, false, 0) := by
  unfold impl_newFlash.f impl_Geometry_all.f
  rw [hn, w64 (by omega) (by omega)]
  exact impl_l a b c n hn2 c0 c1 n k 0 (by omega) (by omega)
theorem FnExactNewFlash : laws_FnExactNewFlash.Pure := by
  intro a b c _ _ _
  refine ⟨8000000, ?_⟩
  unfold laws_FnExactNewFlash.f laws_toGeometry.f
  simp only [Option.bind_some]
  unfold spec_NewFlash.f impl_NewFlash.f
  rw [geo_spec, geo_impl]
  simp only [Option.bind_some]
  cases hg : geoB a b c with
  | false =>
    simp only [Bool.false_eq_true, if_false, Option.bind_some]
    rw [eq_flash 0 0 0 [] 0 0 false 0 (by simp) (by simp) 8000000 (by omega)]
    simp only [Option.bind_some]
    rw [markB_f [] (by simp) (by simp) 8000000 (by omega)]
    simp only [Option.bind_some]
    unfold laws_heldFlash.f
    rw [heldB_f [] (by simp) (by simp) 8000000 (by omega)]
    simp only [Option.bind_some]
    rw [show endB 1 [] = 1 from rfl]
    simp
  | true =>
    obtain ⟨g1, g2, g3, g4, g5⟩ := geo_bounds hg
    have m0 : 2 * 4 ≤ a * b := Int.mul_le_mul g1 g3 (by decide) (by omega)
    have m1 : a * b ≤ 3 * 12 := Int.mul_le_mul g2 g4 (by omega) (by decide)
    obtain ⟨n, hn⟩ : ∃ n : Nat, a * b = (n : Int) := ⟨(a * b).toNat, by omega⟩
    rw [hn] at m0 m1
    have e1 := spec_f a b c n hn (by omega) (by omega) (by omega) 8000000 (by omega)
    have e2 := impl_f a b c n hn (by omega) (by omega) (by omega) 8000000 (by omega)
    have hl : (List.replicate n (blk0 c)).length ≤ 1048576 := by rw [List.length_replicate]; omega
    have hs : ∀ x ∈ List.replicate n (blk0 c), x.f3.length ≤ 1048576 := by
      intro x hx
      obtain rfl := List.eq_of_mem_replicate hx
      show (List.replicate c.toNat (⟨#[]⟩ : ByteArray)).length ≤ 1048576
      rw [List.length_replicate]
      omega
    simp only [if_true]
    rw [e1, e2]
    simp only [Option.bind_some]
    rw [eq_flash a b c _ (-1) 0 false 0 hl hs 8000000 (by omega)]
    simp only [Option.bind_some]
    rw [markB_f _ hl hs 8000000 (by omega)]
    simp only [Option.bind_some]
    have hge := endB_ge (List.replicate n (blk0 c)) 1
    unfold laws_heldFlash.f
    rw [heldB_f _ hl hs 8000000 (by omega)]
    simp only [Option.bind_some]
    rw [if_neg (by omega)]
    simp only [Option.bind_some]
    rw [if_pos ⟨trivial, trivial, trivial, by omega⟩]

end Go.Proofs.Ytenmffpkdfbhbaa.Pure
