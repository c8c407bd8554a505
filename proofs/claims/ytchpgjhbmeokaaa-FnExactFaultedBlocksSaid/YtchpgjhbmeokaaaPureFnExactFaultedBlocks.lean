/- The pure statement of FnExactFaultedBlocks holds. No condition beyond the row's bounds. -/
import Derived.Test.YtchpgjhbmeokaaaQFnExactFaultedBlocksx3
import Derived.Test.YtchpgjhbmeokaaaGen
import Derived.Test.YtchpgjhbmeokaaaHand
namespace Go.Proofs.Ytchpgjhbmeokaaa.Pure
open Go.RowKit Go.Proofs.Ytchpgjhbmeokaaa.QFnExactFaultedBlocks Go.Proofs.YtchpgjhbmeokaaaW.PrintWords Go.Proofs.YtchpgjhbmeokaaaW.PrintLast
open Go.Proofs.Ytchpgjhbmeokaaa.Lem Go.Proofs.Ytchpgjhbmeokaaa.Gen Go.Proofs.Ytchpgjhbmeokaaa.Hand
theorem laws_eqInt64S_l (l : List Int) (hl : l.length ≤ 1048576) (d : Nat) : ∀ (k i : Nat), i + d = l.length → d < k → laws_eqInt64S.l0 k l l (i : Int) = some true := by
  induction d with
  | zero =>
    intro k i hi hk
    obtain ⟨k, rfl⟩ : ∃ n, k = n + 1 := ⟨k - 1, by omega⟩
    rw [laws_eqInt64S.l0, if_neg (by omega)]
  | succ d ih =>
    intro k i hi hk
    obtain ⟨k, rfl⟩ : ∃ n, k = n + 1 := ⟨k - 1, by omega⟩
    rw [laws_eqInt64S.l0, if_pos (by omega), if_pos (by omega), if_pos (by omega)]
    rw [if_pos rfl]
    rw [w64 (by omega) (by omega)]
    exact ih k (i + 1) (by omega) (by omega)
theorem laws_eqInt64S_f (l : List Int) (hl : l.length ≤ 1048576) (k : Nat) (hk : l.length < k) : laws_eqInt64S.f k l l = some true := by
  unfold laws_eqInt64S.f
  rw [if_pos rfl]
  exact laws_eqInt64S_l l hl l.length k 0 (by omega) hk
/-- A row of Int, marked from v on up to place i. -/
def mkInt64 (v : Int) (l : List Int) (i : Nat) : List Int := tabG (fun j : Nat => v + (j : Int)) i ++ l.drop i
theorem mkInt64_length (v : Int) (l : List Int) (i : Nat) (h : i ≤ l.length) : (mkInt64 v l i).length = l.length := by simp [mkInt64, tabG_length]; omega
theorem mkInt64_set (v : Int) (l : List Int) (i : Nat) (h : i < l.length) : (mkInt64 v l i).set i (v + (i : Int)) = mkInt64 v l (i + 1) := by
  unfold mkInt64
  rw [List.set_append_right _ _ (by rw [tabG_length]; exact Nat.le_refl _), tabG_length, Nat.sub_self, List.drop_eq_getElem_cons h, List.set_cons_zero, tabG_succ, List.append_assoc]
  rfl
theorem markInt64_l (v : Int) (v0 : 0 ≤ v) (v1 : v ≤ 100000000) (l : List Int) (hl : l.length ≤ 1048576) (d : Nat) : ∀ (k i : Nat), i + d = l.length → d < k → laws_markInt64S.l0 k (mkInt64 v l i) (v + (i : Int)) (i : Int) = some (v + (l.length : Int), tabG (fun j : Nat => v + (j : Int)) l.length) := by
  induction d with
  | zero =>
    intro k i hi hk
    obtain ⟨k, rfl⟩ : ∃ n, k = n + 1 := ⟨k - 1, by omega⟩
    obtain rfl : i = l.length := by omega
    rw [laws_markInt64S.l0, if_neg (by rw [mkInt64_length _ _ _ (Nat.le_refl _)]; omega)]
    simp [mkInt64]
  | succ d ih =>
    intro k i hi hk
    obtain ⟨k, rfl⟩ : ∃ n, k = n + 1 := ⟨k - 1, by omega⟩
    have t : ((i : Int)).toNat = i := by omega
    have e2 : ((i + 1 : Nat) : Int) = (i : Int) + 1 := by omega
    have e := ih k (i + 1) (by omega) (by omega)
    rw [e2, ← Int.add_assoc] at e
    rw [laws_markInt64S.l0, if_pos (by rw [mkInt64_length _ _ _ (by omega)]; omega), if_pos (by omega), t, mkInt64_set _ _ _ (by omega), w64 (n := v + (i : Int) + 1) (by omega) (by omega), w64 (by omega) (by omega)]
    exact e
theorem markInt64_f (v : Int) (v0 : 0 ≤ v) (v1 : v ≤ 100000000) (l : List Int) (hl : l.length ≤ 1048576) (k : Nat) (hk : l.length < k) : laws_markInt64S.f k l v = some (v + (l.length : Int), tabG (fun j : Nat => v + (j : Int)) l.length) := by
  have e := markInt64_l v v0 v1 l hl l.length k 0 (by omega) hk
  have e0 : v + ((0 : Nat) : Int) = v := by omega
  rw [e0] at e
  exact e
theorem heldInt64_l (v : Int) (v0 : 0 ≤ v) (v1 : v ≤ 100000000) (n : Nat) (hl : n ≤ 1048576) (d : Nat) : ∀ (k i : Nat), i + d = n → d < k → laws_heldInt64S.l0 k (tabG (fun j : Nat => v + (j : Int)) n) (v + (i : Int)) (i : Int) = some (v + (n : Int)) := by
  induction d with
  | zero =>
    intro k i hi hk
    obtain ⟨k, rfl⟩ : ∃ n, k = n + 1 := ⟨k - 1, by omega⟩
    obtain rfl : i = n := by omega
    rw [laws_heldInt64S.l0, if_neg (by rw [tabG_length]; omega)]
  | succ d ih =>
    intro k i hi hk
    obtain ⟨k, rfl⟩ : ∃ n, k = n + 1 := ⟨k - 1, by omega⟩
    have e : rd (tabG (fun j : Nat => v + (j : Int)) n) (i : Int) = v + (i : Int) := by
      have hi : i < n := by omega
      simp [rd, tabG, List.getD_eq_getElem?_getD, hi]
    have e2 : ((i + 1 : Nat) : Int) = (i : Int) + 1 := by omega
    have g := ih k (i + 1) (by omega) (by omega)
    rw [e2, ← Int.add_assoc] at g
    rw [laws_heldInt64S.l0, if_pos (by rw [tabG_length]; omega), if_pos (by omega), e, if_pos rfl, w64 (n := v + (i : Int) + 1) (by omega) (by omega), w64 (by omega) (by omega)]
    exact g
theorem heldInt64_f (v : Int) (v0 : 0 ≤ v) (v1 : v ≤ 100000000) (n : Nat) (hl : n ≤ 1048576) (k : Nat) (hk : n < k) : laws_heldInt64S.f k (tabG (fun j : Nat => v + (j : Int)) n) v = some (v + (n : Int)) := by
  have e := heldInt64_l v v0 v1 n hl n k 0 (by omega) hk
  have e0 : v + ((0 : Nat) : Int) = v := by omega
  rw [e0] at e
  exact e
/-! ### Rows of numbers that rise, and sets of numbers as such rows -/
/-- A number put into its place in a rising row. -/
def put : List Int → Int → List Int
  | [], n => [n]
  | y :: ys, n => if y ≥ n then (if y > n then n :: y :: ys else y :: ys) else y :: put ys n
theorem put_mem (l : List Int) (n x : Int) : x ∈ put l n ↔ x = n ∨ x ∈ l := by
  induction l with
  | nil => simp [put]
  | cons y ys ih =>
    unfold put
    by_cases c : y ≥ n
    · rw [if_pos c]
      by_cases c2 : y > n
      · rw [if_pos c2, List.mem_cons]
      · rw [if_neg c2]
        have : y = n := by omega
        subst this
        simp
    · rw [if_neg c, List.mem_cons, ih, List.mem_cons]
      constructor
      · rintro (h | h | h)
        · exact .inr (.inl h)
        · exact .inl h
        · exact .inr (.inr h)
      · rintro (h | h | h)
        · exact .inr (.inl h)
        · exact .inl h
        · exact .inr (.inr h)
theorem put_length (l : List Int) (n : Int) : (put l n).length ≤ l.length + 1 := by
  induction l with
  | nil => simp [put]
  | cons y ys ih =>
    unfold put
    by_cases c : y ≥ n
    · rw [if_pos c]
      by_cases c2 : y > n
      · rw [if_pos c2]
        simp
      · rw [if_neg c2]
        simp
    · rw [if_neg c]
      simp
      omega
theorem put_rises (l : List Int) (n : Int) (h : l.Pairwise (· < ·)) : (put l n).Pairwise (· < ·) := by
  induction l with
  | nil => simp [put]
  | cons y ys ih =>
    have h1 := (List.pairwise_cons.1 h).1
    have h2 := (List.pairwise_cons.1 h).2
    unfold put
    by_cases c : y ≥ n
    · rw [if_pos c]
      by_cases c2 : y > n
      · rw [if_pos c2]
        refine List.pairwise_cons.2 ⟨fun x hx => ?_, h⟩
        rcases List.mem_cons.1 hx with rfl | hx
        · exact c2
        · have := h1 x hx
          omega
      · rw [if_neg c2]
        exact h
    · rw [if_neg c]
      refine List.pairwise_cons.2 ⟨fun x hx => ?_, ih h2⟩
      rcases (put_mem ys n x).1 hx with rfl | hx
      · omega
      · exact h1 x hx
/-- Two rising rows of the same numbers are one. -/
theorem rises_eq : ∀ (a b : List Int), a.Pairwise (· < ·) → b.Pairwise (· < ·) → (∀ x, x ∈ a ↔ x ∈ b) → a = b
  | [], [], _, _, _ => rfl
  | [], y :: ys, _, _, h => absurd ((h y).2 (List.mem_cons_self)) (by simp)
  | x :: xs, [], _, _, h => absurd ((h x).1 (List.mem_cons_self)) (by simp)
  | x :: xs, y :: ys, ha, hb, h => by
    have a1 := (List.pairwise_cons.1 ha).1
    have b1 := (List.pairwise_cons.1 hb).1
    have e : x = y := by
      have p := (h x).1 List.mem_cons_self
      have q := (h y).2 List.mem_cons_self
      rcases List.mem_cons.1 p with e | p
      · exact e
      · rcases List.mem_cons.1 q with e | q
        · exact e.symm
        · have := a1 y q
          have := b1 x p
          omega
    subst e
    congr 1
    refine rises_eq xs ys (List.pairwise_cons.1 ha).2 (List.pairwise_cons.1 hb).2 (fun z => ?_)
    constructor
    · intro hz
      rcases List.mem_cons.1 ((h z).1 (List.mem_cons_of_mem _ hz)) with e | p
      · have := a1 z hz
        omega
      · exact p
    · intro hz
      rcases List.mem_cons.1 ((h z).2 (List.mem_cons_of_mem _ hz)) with e | p
      · have := b1 z hz
        omega
      · exact p
theorem fold_put (B : List Int) : ∀ (l : List Int), l.Pairwise (· < ·) → (B.foldl put l).Pairwise (· < ·) ∧ (∀ x, x ∈ B.foldl put l ↔ x ∈ l ∨ x ∈ B) ∧ (B.foldl put l).length ≤ l.length + B.length := by
  induction B with
  | nil => intro l h; simpa using h
  | cons y ys ih =>
    intro l h
    obtain ⟨h1, h2, h3⟩ := ih (put l y) (put_rises l y h)
    refine ⟨h1, fun x => ?_, ?_⟩
    · rw [List.foldl_cons, h2, put_mem, List.mem_cons]
      constructor
      · rintro ((h | h) | h)
        · exact .inr (.inl h)
        · exact .inl h
        · exact .inr (.inr h)
      · rintro (h | h | h)
        · exact .inl (.inr h)
        · exact .inl (.inl h)
        · exact .inr h
    · rw [List.foldl_cons, List.length_cons]
      have := put_length l y
      omega
/-- What slices.Compact leaves of a row that does not fall. -/
theorem compact_facts (s : List Int) (hs : s.Pairwise (· ≤ ·)) (m : Nat) (hm : m ≤ s.length) :
    (Lib.compactUpTo s.toArray m).Pairwise (· < ·) ∧ (∀ x, x ∈ Lib.compactUpTo s.toArray m ↔ ∃ j, j < m ∧ s[j]? = some x) ∧ (∀ x ∈ Lib.compactUpTo s.toArray m, ∀ j y, j + 1 = m → s[j]? = some y → x ≤ y) := by
  induction m with
  | zero => simp [Lib.compactUpTo]
  | succ m ih =>
    obtain ⟨h1, h2, h3⟩ := ih (by omega)
    have hlt : m < s.length := by omega
    have eg : s.toArray[m]! = s[m] := by simp [hlt]
    have es : s[m]? = some s[m] := List.getElem?_eq_getElem hlt
    rw [Lib.compactUpTo_succ, eg]
    by_cases hk : Lib.keeps s.toArray m = true
    · rw [if_pos hk]
      have hlast : ∀ x ∈ Lib.compactUpTo s.toArray m, x < s[m] := by
        intro x hx
        obtain ⟨j, hj, ej⟩ := (h2 x).1 hx
        obtain ⟨p, rfl⟩ : ∃ p, m = p + 1 := ⟨m - 1, by omega⟩
        have hp : p < s.length := by omega
        have ep : s.toArray[p]! = s[p] := by simp [hp]
        have hle := h3 x hx p s[p] rfl (List.getElem?_eq_getElem hp)
        have hne : s[p + 1] ≠ s[p] := by
          have := hk
          unfold Lib.keeps at this
          rcases of_decide_eq_true this with h | h
          · omega
          · rw [eg] at h
            simp only [Nat.add_sub_cancel] at h
            rw [ep] at h
            exact h
        have hstep : s[p] ≤ s[p + 1] := List.pairwise_iff_getElem.1 hs p (p + 1) hp hlt (by omega)
        omega
      refine ⟨List.pairwise_append.2 ⟨h1, by simp, fun x hx y hy => ?_⟩, fun x => ?_, fun x hx j y hj ey => ?_⟩
      · rw [List.mem_singleton.1 hy]
        exact hlast x hx
      · rw [List.mem_append, h2, List.mem_singleton]
        constructor
        · rintro (⟨j, hj, e⟩ | rfl)
          · exact ⟨j, by omega, e⟩
          · exact ⟨m, by omega, es⟩
        · rintro ⟨j, hj, e⟩
          by_cases c : j = m
          · subst c
            rw [es] at e
            exact .inr (Option.some.inj e).symm
          · exact .inl ⟨j, by omega, e⟩
      · have : j = m := by omega
        subst this
        rw [es] at ey
        obtain rfl := Option.some.inj ey
        rcases List.mem_append.1 hx with hx | hx
        · have := hlast x hx
          omega
        · rw [List.mem_singleton.1 hx]
          exact Int.le_refl _
    · rw [if_neg hk, List.append_nil]
      have hnk : ¬ (m = 0 ∨ s.toArray[m]! ≠ s.toArray[m - 1]!) := fun h => hk (by unfold Lib.keeps; exact decide_eq_true h)
      have h0 : m ≠ 0 := fun h => hnk (.inl h)
      obtain ⟨p, rfl⟩ : ∃ p, m = p + 1 := ⟨m - 1, by omega⟩
      have hp : p < s.length := by omega
      have ep : s.toArray[p]! = s[p] := by simp [hp]
      have heq : s[p + 1] = s[p] := by
        have : ¬ s.toArray[p + 1]! ≠ s.toArray[p + 1 - 1]! := fun h => hnk (.inr h)
        rw [eg] at this
        simp only [Nat.add_sub_cancel] at this
        rw [ep] at this
        exact Classical.not_not.1 this
      refine ⟨h1, fun x => ?_, fun x hx j y hj ey => ?_⟩
      · rw [h2]
        constructor
        · rintro ⟨j, hj, e⟩
          exact ⟨j, by omega, e⟩
        · rintro ⟨j, hj, e⟩
          by_cases c : j = p + 1
          · subst c
            rw [es, heq] at e
            exact ⟨p, by omega, by rw [List.getElem?_eq_getElem hp]; exact e⟩
          · exact ⟨j, by omega, e⟩
      · have : j = p + 1 := by omega
        subst this
        rw [es, heq] at ey
        obtain rfl := Option.some.inj ey
        exact h3 x hx p s[p] rfl (List.getElem?_eq_getElem hp)
theorem sort_compact (B : List Int) : Lib.compactUpTo (B.mergeSort fun x y => decide (x ≤ y)).toArray B.length = B.foldl put [] := by
  have hl : (B.mergeSort fun x y => decide (x ≤ y)).length = B.length := List.length_mergeSort B
  have hs : (B.mergeSort fun x y => decide (x ≤ y)).Pairwise (· ≤ ·) := by
    have := List.pairwise_mergeSort (le := fun x y : Int => decide (x ≤ y)) (fun a b c h1 h2 => by simp at h1 h2 ⊢; omega) (fun a b => by simp; omega) B
    exact this.imp (fun h => of_decide_eq_true h)
  obtain ⟨h1, h2, _⟩ := compact_facts _ hs B.length (by omega)
  obtain ⟨g1, g2, _⟩ := fold_put B [] List.Pairwise.nil
  refine rises_eq _ _ h1 g1 (fun x => ?_)
  rw [h2, g2, ← List.mem_mergeSort (le := fun x y : Int => decide (x ≤ y)) (l := B)]
  constructor
  · rintro ⟨j, _, e⟩
    exact .inr (List.mem_iff_getElem?.2 ⟨j, e⟩)
  · rintro (h | h)
    · simp at h
    · obtain ⟨j, e⟩ := List.mem_iff_getElem?.1 h
      obtain ⟨hj, _⟩ := List.getElem?_eq_some_iff.1 e
      exact ⟨j, by omega, e⟩
/-! ### The functions -/
theorem put_done (x : List Int) (n : Int) (hx : x.length ≤ 1048577) (d : Nat) : ∀ (k i : Nat) (o : List Int), i + d = x.length → 2 * d < k → o.length ≤ i + 1 → spec_l00Put.l0 k x n o true (i : Int) = some (o ++ x.drop i) := by
  induction d with
  | zero =>
    intro k i o hi hk ho
    obtain ⟨k, rfl⟩ : ∃ n, k = n + 1 := ⟨k - 1, by omega⟩
    rw [spec_l00Put.l0, if_neg (by omega), if_pos rfl, List.drop_eq_nil_of_le (by omega), List.append_nil]
  | succ d ih =>
    intro k i o hi hk ho
    obtain ⟨k, rfl⟩ : ∃ n, k = n + 2 := ⟨k - 2, by omega⟩
    have hlt : i < x.length := by omega
    have er : rd x (i : Int) = x[i] := by simp [rd, List.getD_eq_getElem?_getD, hlt]
    have e2 : ((i + 1 : Nat) : Int) = (i : Int) + 1 := by omega
    have e := ih k (i + 1) (o ++ [x[i]]) (by omega) (by omega) (by simp; omega)
    rw [e2] at e
    rw [spec_l00Put.l0, if_pos (by omega), if_pos rfl, spec_l00Put.j1, if_neg (by simp), if_pos (by omega), if_pos (by omega), if_pos (by omega), er, w64 (by omega) (by omega), e, List.append_assoc, List.drop_eq_getElem_cons hlt]
    rfl
theorem put_todo (x : List Int) (n : Int) (hx : x.length ≤ 1048577) (d : Nat) : ∀ (k i : Nat) (o : List Int), i + d = x.length → 2 * d < k → o.length ≤ i → spec_l00Put.l0 k x n o false (i : Int) = some (o ++ put (x.drop i) n) := by
  induction d with
  | zero =>
    intro k i o hi hk ho
    obtain ⟨k, rfl⟩ : ∃ n, k = n + 1 := ⟨k - 1, by omega⟩
    rw [spec_l00Put.l0, if_neg (by omega), if_neg (by simp), if_pos (by omega), List.drop_eq_nil_of_le (by omega)]
    rfl
  | succ d ih =>
    intro k i o hi hk ho
    obtain ⟨k, rfl⟩ : ∃ n, k = n + 2 := ⟨k - 2, by omega⟩
    have hlt : i < x.length := by omega
    have er : rd x (i : Int) = x[i] := by simp [rd, List.getD_eq_getElem?_getD, hlt]
    have e2 : ((i + 1 : Nat) : Int) = (i : Int) + 1 := by omega
    rw [spec_l00Put.l0, if_pos (by omega), if_neg (by simp), if_pos (by omega), spec_l00Put.j1, er, List.drop_eq_getElem_cons hlt, put]
    by_cases c : x[i] ≥ n
    · rw [decide_eq_true c, if_pos rfl, if_pos (by omega), if_pos (by omega), if_pos c]
      by_cases c2 : x[i] > n
      · have e := put_done x n hx d k (i + 1) (o ++ [n] ++ [x[i]]) (by omega) (by omega) (by simp; omega)
        rw [e2] at e
        rw [if_pos c2, if_pos (by omega), if_pos c2]
        simp only [Option.bind_some]
        rw [if_pos (by simp; omega), w64 (by omega) (by omega), e]
        simp
      · have e := put_done x n hx d k (i + 1) (o ++ [x[i]]) (by omega) (by omega) (by simp; omega)
        rw [e2] at e
        rw [if_neg c2, if_pos (by omega), if_neg c2, w64 (by omega) (by omega), e]
        simp
    · have e := ih k (i + 1) (o ++ [x[i]]) (by omega) (by omega) (by simp; omega)
      rw [e2] at e
      rw [decide_eq_false c, if_neg (by simp), if_pos (by omega), if_pos (by omega), if_pos (by omega), if_neg c, w64 (by omega) (by omega), e]
      simp
theorem put_f (x : List Int) (n : Int) (hx : x.length ≤ 1048577) (k : Nat) (hk : 2097154 < k) : spec_l00Put.f k x n = some (put x n) := by
  have e := put_todo x n hx x.length k 0 [] (by omega) (by omega) (by simp)
  exact e
/-- The blocks of the faults of another kind than 5, in their order. -/
def blocksOf (F : List S101) : List Int := (F.filter (fun x => !decide (x.f0 = 5))).map (·.f1)
theorem blocks_step (F : List S101) (i : Nat) (h : i < F.length) : blocksOf (F.drop i) = (if F[i].f0 = 5 then [] else [F[i].f1]) ++ blocksOf (F.drop (i + 1)) := by
  rw [List.drop_eq_getElem_cons h]
  unfold blocksOf
  by_cases c : F[i].f0 = 5
  · rw [if_pos c, List.filter_cons_of_neg (by simp [c])]
    rfl
  · rw [if_neg c, List.filter_cons_of_pos (by simp [c])]
    rfl
theorem blocks_length (F : List S101) : (blocksOf F).length ≤ F.length := by
  unfold blocksOf
  rw [List.length_map]
  exact List.length_filter_le _ _
theorem rd_F (F : List S101) (i : Nat) (h : i < F.length) : rd_T101 F (i : Int) = F[i] := by
  simp [rd_T101, List.getD_eq_getElem?_getD, h]
theorem spec_l (F : List S101) (hF : F.length ≤ 1048576) (d : Nat) : ∀ (k i : Nat) (o : List Int), i + d = F.length → d + 2200000 < k → o.length ≤ i → o.Pairwise (· < ·) → spec_FaultedBlocks.l0 k F o (i : Int) = some ((blocksOf (F.drop i)).foldl put o) := by
  induction d with
  | zero =>
    intro k i o hi hk ho hp
    obtain ⟨k, rfl⟩ : ∃ n, k = n + 1 := ⟨k - 1, by omega⟩
    rw [spec_FaultedBlocks.l0, if_neg (by omega), List.drop_eq_nil_of_le (by omega)]
    rfl
  | succ d ih =>
    intro k i o hi hk ho hp
    obtain ⟨k, rfl⟩ : ∃ n, k = n + 1 := ⟨k - 1, by omega⟩
    have hlt : i < F.length := by omega
    have e2 : ((i + 1 : Nat) : Int) = (i : Int) + 1 := by omega
    rw [spec_FaultedBlocks.l0, if_pos (by omega), if_pos (by omega), rd_F F i hlt, blocks_step F i hlt]
    by_cases c : F[i].f0 = 5
    · have e := ih k (i + 1) o (by omega) (by omega) (by omega) hp
      rw [e2] at e
      rw [if_pos c, if_pos c, w64 (by omega) (by omega), e]
      rfl
    · have hl := put_length o F[i].f1
      have e := ih k (i + 1) (put o F[i].f1) (by omega) (by omega) (by omega) (put_rises _ _ hp)
      rw [e2] at e
      rw [if_neg c, if_neg c, put_f o _ (by omega) k (by omega)]
      simp only [Option.bind_some]
      rw [w64 (by omega) (by omega), e]
      rfl
theorem impl_l (F : List S101) (hF : F.length ≤ 1048576) (d : Nat) : ∀ (k i : Nat) (o : List Int), i + d = F.length → d < k → o.length ≤ i → impl_FaultedBlocks.l0 k o F (F.length : Int) (i : Int) = some ((o ++ blocksOf (F.drop i)).foldl put []) := by
  induction d with
  | zero =>
    intro k i o hi hk ho
    obtain ⟨k, rfl⟩ : ∃ n, k = n + 1 := ⟨k - 1, by omega⟩
    rw [impl_FaultedBlocks.l0, if_neg (by omega), List.drop_eq_nil_of_le (by omega)]
    unfold slices_Compact_int64_int64.f
    rw [if_pos (by omega), sort_compact]
    simp [blocksOf]
  | succ d ih =>
    intro k i o hi hk ho
    obtain ⟨k, rfl⟩ : ∃ n, k = n + 1 := ⟨k - 1, by omega⟩
    have hlt : i < F.length := by omega
    have e2 : ((i + 1 : Nat) : Int) = (i : Int) + 1 := by omega
    rw [impl_FaultedBlocks.l0, if_pos (by omega), if_pos (by omega), if_pos (by omega), rd_F F i hlt, blocks_step F i hlt]
    by_cases c : F[i].f0 = 5
    · have e := ih k (i + 1) o (by omega) (by omega) (by omega)
      rw [e2] at e
      rw [if_pos c, if_pos c, w64 (by omega) (by omega), e]
      rfl
    · have e := ih k (i + 1) (o ++ [F[i].f1]) (by omega) (by omega) (by simp; omega)
      rw [e2] at e
      rw [if_neg c, if_neg c, if_pos (by omega), w64 (by omega) (by omega), e, List.append_assoc]
def conv (x : S104) : S101 := ⟨x.f0, x.f1, x.f2, x.f3⟩
theorem to_l (l : List S104) (hl : l.length ≤ 1048576) (d : Nat) : ∀ (k i : Nat), i + d = l.length → d < k →
    laws_toFaultS.l0 k l (fillG z101 (fun j : Nat => conv (rd_T104 l (j : Int))) l.length i) (i : Int) = some (tabG (fun j : Nat => conv (rd_T104 l (j : Int))) l.length) := by
  induction d with
  | zero =>
    intro k i hi hk
    obtain ⟨k, rfl⟩ : ∃ n, k = n + 1 := ⟨k - 1, by omega⟩
    obtain rfl : i = l.length := by omega
    rw [laws_toFaultS.l0, if_neg (by omega), fillG_all]
  | succ d ih =>
    intro k i hi hk
    obtain ⟨k, rfl⟩ : ∃ n, k = n + 1 := ⟨k - 1, by omega⟩
    have t : ((i : Int)).toNat = i := by omega
    have e := ih k (i + 1) (by omega) (by omega)
    rw [← fillG_set z101 (fun j : Nat => conv (rd_T104 l (j : Int))) l.length i (by omega)] at e
    have e2 : ((i + 1 : Nat) : Int) = (i : Int) + 1 := by omega
    rw [e2] at e
    rw [laws_toFaultS.l0, if_pos (by omega), if_pos (by omega)]
    unfold laws_toFault.f
    simp only [Option.bind_some]
    rw [if_pos (by rw [fillG_length _ _ _ _ (by omega)]; omega), w64 (by omega) (by omega), t]
    exact e
theorem to_f (l : List S104) (hl : l.length ≤ 1048576) (k : Nat) (hk : l.length < k) : laws_toFaultS.f k l = some (l.map conv) := by
  unfold laws_toFaultS.f
  have t : ((l.length : Int)).toNat = l.length := by omega
  rw [if_pos (by omega), t, if_pos (by omega), ← fillG_zero z101 (fun j : Nat => conv (rd_T104 l (j : Int)))]
  have e := to_l l hl l.length k 0 (by omega) hk
  have e0 : ((0 : Nat) : Int) = 0 := rfl
  rw [e0] at e
  rw [e]
  congr 1
  exact tabG_map l z104 conv
theorem eqF_l (F : List S101) (hl : F.length ≤ 1048576) (d : Nat) : ∀ (k i : Nat), i + d = F.length → d < k → laws_eqFaultS.l0 k F F (i : Int) = some true := by
  induction d with
  | zero =>
    intro k i hi hk
    obtain ⟨k, rfl⟩ : ∃ n, k = n + 1 := ⟨k - 1, by omega⟩
    rw [laws_eqFaultS.l0, if_neg (by omega)]
  | succ d ih =>
    intro k i hi hk
    obtain ⟨k, rfl⟩ : ∃ n, k = n + 1 := ⟨k - 1, by omega⟩
    have e2 : ((i + 1 : Nat) : Int) = (i : Int) + 1 := by omega
    have e := ih k (i + 1) (by omega) (by omega)
    rw [e2] at e
    rw [laws_eqFaultS.l0, if_pos (by omega), if_pos (by omega), if_pos (by omega)]
    unfold laws_eqFault.f
    simp only [if_true, Option.bind_some]
    rw [w64 (by omega) (by omega)]
    exact e
theorem markF_l (n : Nat) (hn : n ≤ 1048576) (d : Nat) : ∀ (k i : Nat) (F : List S101), F.length = n → i + d = n → d < k → ∃ r, laws_markFaultS.l0 k F (1 + 4 * (i : Int)) (i : Int) = some r ∧ 0 ≤ r.1 := by
  induction d with
  | zero =>
    intro k i F hF hi hk
    obtain ⟨k, rfl⟩ : ∃ n, k = n + 1 := ⟨k - 1, by omega⟩
    rw [laws_markFaultS.l0, if_neg (by omega)]
    exact ⟨_, rfl, by show 0 ≤ 1 + 4 * (i : Int); omega⟩
  | succ d ih =>
    intro k i F hF hi hk
    obtain ⟨k, rfl⟩ : ∃ n, k = n + 1 := ⟨k - 1, by omega⟩
    have e2 : ((i + 1 : Nat) : Int) = (i : Int) + 1 := by omega
    rw [laws_markFaultS.l0, if_pos (by omega), if_pos (by omega)]
    simp only [Option.bind_some]
    rw [w64 (n := 1 + 4 * (i : Int) + 1) (by omega) (by omega), w64 (n := 1 + 4 * (i : Int) + 1 + 1) (by omega) (by omega), w64 (n := 1 + 4 * (i : Int) + 1 + 1 + 1) (by omega) (by omega), w64 (n := 1 + 4 * (i : Int) + 1 + 1 + 1 + 1) (by omega) (by omega), w64 (n := (i : Int) + 1) (by omega) (by omega)]
    have e3 : 1 + 4 * (i : Int) + 1 + 1 + 1 + 1 = 1 + 4 * ((i + 1 : Nat) : Int) := by omega
    rw [e3, ← e2]
    exact ih k (i + 1) _ (by simp [hF]) (by omega) (by omega)
theorem FnExactFaultedBlocks : laws_FnExactFaultedBlocks.Pure := by
  intro l ⟨hl0, _⟩
  have hl : l.length ≤ 9223372036854775807 := hl0
  refine ⟨10000000, ?_⟩
  unfold laws_FnExactFaultedBlocks.f laws_szFaultS.f
  rw [w64 (n := 1048576 - (l.length : Int)) (by omega) (by omega)]
  by_cases c : 1048576 - (l.length : Int) < 0
  · rw [if_pos c]
    rfl
  · rw [if_neg c]
    simp only [Option.bind_some]
    rw [if_neg c]
    have hF : (l.map conv).length ≤ 1048576 := by simp; omega
    have t1 := to_f l (by omega) 10000000 (by omega)
    have t2 := to_f l (by omega) 9999999 (by omega)
    have s1 : spec_FaultedBlocks.f 10000000 (l.map conv) = some ((blocksOf (l.map conv)).foldl put []) := spec_l (l.map conv) hF (l.map conv).length 10000000 0 [] (by omega) (by omega) (by simp) List.Pairwise.nil
    have i1 : ∀ k, 2000000 < k → impl_FaultedBlocks.f k (l.map conv) = some ((blocksOf (l.map conv)).foldl put []) := fun k hk => impl_l (l.map conv) hF (l.map conv).length k 0 [] (by omega) (by omega) (by simp)
    have hr : ((blocksOf (l.map conv)).foldl put []).length ≤ 1048576 := by
      have := (fold_put (blocksOf (l.map conv)) [] List.Pairwise.nil).2.2
      have := blocks_length (l.map conv)
      simp at *
      omega
    generalize (blocksOf (l.map conv)).foldl put [] = R at s1 i1 hr
    have q1 := laws_eqInt64S_f R hr 10000000 (by omega)
    have q2 := laws_eqInt64S_f R hr 9999999 (by omega)
    have f1 : laws_eqFaultS.f 10000000 (l.map conv) (l.map conv) = some true := by
      unfold laws_eqFaultS.f
      rw [if_pos rfl]
      exact eqF_l (l.map conv) hF (l.map conv).length 10000000 0 (by omega) (by omega)
    obtain ⟨m, m1, m2⟩ := markF_l (l.map conv).length hF (l.map conv).length 10000000 0 (l.map conv) rfl (by omega) (by omega)
    have m3 : laws_markFaultS.f 10000000 (l.map conv) 1 = some m := m1
    rw [t1]
    simp only [Option.bind_some]
    rw [s1, i1 10000000 (by omega)]
    simp only [Option.bind_some]
    rw [q1]
    simp only [Option.bind_some, if_true]
    rw [f1]
    simp only [Option.bind_some, if_true]
    rw [m3]
    simp only [Option.bind_some]
    rw [if_neg (by omega), show (!true) = false from rfl, show (10000000 : Nat) = 9999999 + 1 from rfl, laws_FnExactFaultedBlocks.j0, if_neg (by simp), markInt64_f 1 (by omega) (by omega) R (by omega) 9999999 (by omega)]
    simp only [Option.bind_some]
    rw [heldInt64_f 1 (by omega) (by omega) R.length (by omega) 9999999 (by omega)]
    simp only [Option.bind_some]
    rw [if_neg (by omega), if_pos trivial, t2]
    simp only [Option.bind_some]
    rw [i1 9999999 (by omega)]
    simp only [Option.bind_some]
    rw [q2]
    simp only [Option.bind_some, if_true]
    rw [if_neg (by omega)]

end Go.Proofs.Ytchpgjhbmeokaaa.Pure
