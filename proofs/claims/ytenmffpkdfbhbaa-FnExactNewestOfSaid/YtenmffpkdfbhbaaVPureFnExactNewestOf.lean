/- The pure statement of FnExactNewestOf holds. No condition beyond the row's bounds. -/
import Derived.Test.YtenmffpkdfbhbaaVQFnExactNewestOfx9
import Derived.Test.YtenmffpkdfbhbaaVGen
namespace Go.Proofs.Ytenmffpkdfbhbaa.Pure
open Go.RowKit Go.Proofs.Ytenmffpkdfbhbaa.QFnExactNewestOf Go.Proofs.YtenmffpkdfbhbaaW.PrintWords Go.Proofs.YtenmffpkdfbhbaaW.PrintLast
open Go.Proofs.Ytenmffpkdfbhbaa.Lem Go.Proofs.Ytenmffpkdfbhbaa.Gen
def inB (x lo hi : Int) : Bool := decide (lo ≤ x) && decide (x ≤ hi)
theorem inB_true {x lo hi : Int} (h : inB x lo hi = true) : lo ≤ x ∧ x ≤ hi := by simpa [inB] using h
theorem inB_mk {x lo hi : Int} (h0 : lo ≤ x) (h1 : x ≤ hi) : inB x lo hi = true := by simp [inB, h0, h1]
theorem inB_false {x lo hi : Int} (h : ¬ (lo ≤ x ∧ x ≤ hi)) : inB x lo hi = false := by
  cases e : inB x lo hi with
  | false => rfl
  | true => exact absurd (inB_true e) h
theorem impl_within_f (x lo hi : Int) : impl_within.f x lo hi = some (inB x lo hi) := by
  unfold impl_within.f inB
  by_cases h : x ≥ lo
  · rw [if_pos h]
    have h2 : lo ≤ x := h
    simp [h2]
  · rw [if_neg h]
    have h2 : ¬ lo ≤ x := h
    simp [h2]
theorem spec_l00In_f (x lo hi : Int) : spec_l00In.f x lo hi = some (inB x lo hi) := by
  unfold spec_l00In.f inB
  by_cases h : x ≥ lo
  · rw [if_pos h]
    have h2 : lo ≤ x := h
    simp [h2]
  · rw [if_neg h]
    have h2 : ¬ lo ≤ x := h
    simp [h2]
def metaB (a b c d e : Int) : Bool :=
  if a = 4 then (b == 0 && (c == 0 && (d == 0 && e == 0))) else
  inB b 0 47 && (inB c 1 1000000 && (if a = 1 ∨ a = 3 then d == 0 && e == 0 else if a = 2 then inB e 1 4 && (inB d 1 c && decide (c - d < e)) else false))
theorem meta_spec (k : Nat) (a b c d e : Int) (hd : (Lit.int .i64 d).wf = true) (he : (Lit.int .i64 e).wf = true) : spec_ValidMeta.f (k + 2) a b c d e = some (metaB a b c d e) := by
  have bd := bounds_i64 hd
  have be := bounds_i64 he
  unfold spec_ValidMeta.f metaB
  by_cases h4 : a = 4
  · rw [if_pos h4, if_pos h4]
    by_cases b0 : b = 0 <;> by_cases c0 : c = 0 <;> by_cases d0 : d = 0 <;> simp [b0, c0, d0]
  · rw [if_neg h4, if_neg h4, spec_l00In_f]
    simp only [Option.bind_some]
    cases hb : inB b 0 47
    · simp [spec_ValidMeta.j0]
    · rw [if_pos rfl, spec_l00In_f]
      simp only [Option.bind_some]
      cases hc : inB c 1 1000000
      · simp [spec_ValidMeta.j0]
      · have bc := inB_true hc
        rw [spec_ValidMeta.j0, if_neg (by simp)]
        by_cases h1 : a = 1
        · subst h1
          rw [if_pos rfl, spec_ValidMeta.j1, if_pos (by decide)]
          by_cases d0 : d = 0 <;> simp [d0]
        · by_cases h3 : a = 3
          · subst h3
            rw [if_neg h1, spec_ValidMeta.j1, if_pos (by decide)]
            by_cases d0 : d = 0 <;> simp [d0]
          · have e3 : (a == 3) = false := by simpa using h3
            rw [if_neg h1, spec_ValidMeta.j1, e3, if_neg (by simp)]
            by_cases h2 : a = 2
            · subst h2
              rw [if_pos rfl, spec_l00In_f]
              simp only [Option.bind_some]
              cases ee : inB e 1 4
              · simp
              · rw [if_pos rfl, spec_l00In_f]
                simp only [Option.bind_some]
                cases ed : inB d 1 c
                · simp
                · have e2 := inB_true ed
                  rw [if_pos rfl, w64 (by omega) (by omega)]
                  simp
            · rw [if_neg h2]
              simp [h1, h2, h3]
theorem meta_impl (k : Nat) (a b c d e : Int) (hd : (Lit.int .i64 d).wf = true) (he : (Lit.int .i64 e).wf = true) : impl_ValidMeta.f (k + 2) a b c d e = some (metaB a b c d e) := by
  have bd := bounds_i64 hd
  have be := bounds_i64 he
  unfold impl_ValidMeta.f metaB
  by_cases h4 : a = 4
  · rw [if_pos h4, if_pos h4]
    simp [h4]
  · rw [if_neg h4, if_neg h4, impl_within_f]
    simp only [Option.bind_some]
    cases hb : inB b 0 47
    · simp [impl_ValidMeta.j0]
    · rw [if_pos rfl, impl_within_f]
      simp only [Option.bind_some]
      cases hc : inB c 1 1000000
      · simp [impl_ValidMeta.j0]
      · have bc := inB_true hc
        rw [impl_ValidMeta.j0, if_neg (by simp)]
        by_cases h1 : a = 1
        · subst h1
          rw [if_pos rfl, impl_ValidMeta.j1, if_pos (by decide)]
          by_cases d0 : d = 0 <;> simp [d0]
        · by_cases h3 : a = 3
          · subst h3
            rw [if_neg h1, impl_ValidMeta.j1, if_pos (by decide)]
            by_cases d0 : d = 0 <;> simp [d0]
          · have e3 : (a == 3) = false := by simpa using h3
            rw [if_neg h1, impl_ValidMeta.j1, e3, if_neg (by simp)]
            by_cases h2 : a = 2
            · subst h2
              rw [if_pos rfl, impl_within_f]
              simp only [Option.bind_some]
              cases ee : inB e 1 4
              · simp
              · have e4 := inB_true ee
                rw [if_pos rfl]
                by_cases d1 : d ≥ 1
                · rw [if_pos d1, impl_within_f]
                  simp only [Option.bind_some]
                  have d1' : 1 ≤ d := d1
                  have key : inB c d (wrap64 ((wrap64 (d + e)) - 1)) = (inB d 1 c && decide (c - d < e)) := by
                    unfold inB
                    by_cases dc : d ≤ c
                    · rw [w64 (n := d + e) (by omega) (by omega), w64 (by omega) (by omega)]
                      rw [Bool.eq_iff_iff]
                      simp
                      omega
                    · simp [dc]
                  rw [key]
                  simp
                · rw [if_neg d1]
                  have d2 : ¬ 1 ≤ d := d1
                  simp [inB, d2]
            · rw [if_neg h2]
              simp [h1, h2, h3]
def cvF (x : S89) : S57 := ⟨x.f0, ⟨x.f1.f0, x.f1.f1, x.f1.f2, x.f1.f3, x.f1.f4⟩⟩
theorem laws_toFoundS_l (l : List S89) (hl : l.length ≤ 1048576) (d : Nat) : ∀ (k i : Nat), i + d = l.length → d < k →
    laws_toFoundS.l0 k l (fillG z57 (fun j : Nat => cvF (rd_T89 l (j : Int))) l.length i) (i : Int) = some (tabG (fun j : Nat => cvF (rd_T89 l (j : Int))) l.length) := by
  induction d with
  | zero =>
    intro k i hi hk
    obtain ⟨k, rfl⟩ : ∃ n, k = n + 1 := ⟨k - 1, by omega⟩
    obtain rfl : i = l.length := by omega
    rw [laws_toFoundS.l0, if_neg (by omega), fillG_all]
  | succ d ih =>
    intro k i hi hk
    obtain ⟨k, rfl⟩ : ∃ n, k = n + 1 := ⟨k - 1, by omega⟩
    have t : ((i : Int)).toNat = i := by omega
    rw [laws_toFoundS.l0, if_pos (by omega), if_pos (by omega)]
    simp only [laws_toFound.f, laws_toPageMeta.f, Option.bind_some]
    rw [if_pos (by rw [fillG_length _ _ _ _ (by omega)]; omega), w64 (by omega) (by omega)]
    have e := ih k (i + 1) (by omega) (by omega)
    rw [← fillG_set z57 (fun j : Nat => cvF (rd_T89 l (j : Int))) l.length i (by omega)] at e
    have e2 : ((i + 1 : Nat) : Int) = (i : Int) + 1 := by omega
    rw [e2] at e
    rw [t]
    exact e
theorem laws_toFoundS_f (l : List S89) (hl : l.length ≤ 1048576) (k : Nat) (hk : l.length < k) : laws_toFoundS.f k l = some (l.map cvF) := by
  unfold laws_toFoundS.f
  have t : ((l.length : Int)).toNat = l.length := by omega
  rw [if_pos (by omega), t, if_pos (by omega), ← fillG_zero z57 (fun j : Nat => cvF (rd_T89 l (j : Int)))]
  have e := laws_toFoundS_l l hl l.length k 0 (by omega) hk
  have e0 : ((0 : Nat) : Int) = 0 := rfl
  rw [e0] at e
  rw [e, show tabG (fun j : Nat => cvF (rd_T89 l (j : Int))) l.length = l.map cvF from tabG_map l z89 cvF]
theorem laws_eqFoundS_l (l : List S57) (hl : l.length ≤ 1048576) (d : Nat) : ∀ (k i : Nat), i + d = l.length → d < k → laws_eqFoundS.l0 k l l (i : Int) = some true := by
  induction d with
  | zero =>
    intro k i hi hk
    obtain ⟨k, rfl⟩ : ∃ n, k = n + 1 := ⟨k - 1, by omega⟩
    rw [laws_eqFoundS.l0, if_neg (by omega)]
  | succ d ih =>
    intro k i hi hk
    obtain ⟨k, rfl⟩ : ∃ n, k = n + 1 := ⟨k - 1, by omega⟩
    rw [laws_eqFoundS.l0, if_pos (by omega), if_pos (by omega), if_pos (by omega)]
    simp only [laws_eqFound.f, laws_eqPageMeta.f, if_true, Option.bind_some]
    rw [w64 (by omega) (by omega)]
    exact ih k (i + 1) (by omega) (by omega)
theorem laws_eqFoundS_f (l : List S57) (hl : l.length ≤ 1048576) (k : Nat) (hk : l.length < k) : laws_eqFoundS.f k l l = some true := by
  unfold laws_eqFoundS.f
  rw [if_pos rfl]
  exact laws_eqFoundS_l l hl l.length k 0 (by omega) hk
theorem sz_found (l : List S89) (h : l.length ≤ maxLen) (n : Int) (n0 : 0 ≤ n) (n1 : n ≤ 1048576) : ∃ m, laws_szFoundS.f l n = some m ∧ m ≤ n ∧ (0 ≤ m → m = n - l.length) := by
  simp only [maxLen] at h
  unfold laws_szFoundS.f
  rw [w64 (by omega) (by omega)]
  by_cases c : n - (l.length : Int) < 0
  · rw [if_pos c]
    exact ⟨-1, rfl, by omega, fun h => by omega⟩
  · rw [if_neg c]
    exact ⟨_, rfl, by omega, fun _ => rfl⟩
def okM (x : S55) : Prop := (Lit.int .i64 x.f3).wf = true ∧ (Lit.int .i64 x.f4).wf = true
theorem okM_map (l : List S89) (h : ∀ x ∈ l, wf89 x) : ∀ x ∈ l.map cvF, okM x.f1 := by
  intro x hx
  obtain ⟨y, hy, rfl⟩ := List.mem_map.1 hx
  have := h y hy
  exact ⟨this.2.2.2.2.1, this.2.2.2.2.2⟩
def metaS (x : S55) : Bool := metaB x.f0 x.f1 x.f2 x.f3 x.f4
def elB (l : List S57) (i : Nat) : Bool :=
  inB (l.getD i z57).f0 0 639 && ((i == 0 || decide ((l.getD (i - 1) z57).f0 < (l.getD i z57).f0)) && (metaS (l.getD i z57).f1 && !((l.getD i z57).f1.f0 == 4)))
/-- From place i on: all d that are left are right, and there are not too many. -/
def restB (l : List S57) : Nat → Nat → Bool
  | 0, _ => true
  | d + 1, i => elB l i && restB l d (i + 1)
theorem found_spec (l : List S57) (hl : l.length ≤ 1048576) (h : ∀ x ∈ l, okM x.f1) (d : Nat) : ∀ (k i : Nat), i + d = l.length → d + 2 < k → spec_ValidFound.l0 k l (i : Int) = some (restB l d i) := by
  induction d with
  | zero =>
    intro k i hi hk
    obtain ⟨k, rfl⟩ : ∃ n, k = n + 1 := ⟨k - 1, by omega⟩
    rw [spec_ValidFound.l0, if_neg (by omega)]
    rfl
  | succ d ih =>
    intro k i hi hk
    obtain ⟨k, rfl⟩ : ∃ n, k = n + 2 + 1 := ⟨k - 3, by omega⟩
    have t : ((i : Int)).toNat = i := by omega
    have g : rd_T57 l (i : Int) = l.getD i z57 := by simp [rd_T57]
    have hm := h _ (getD_mem l i z57 (by omega))
    have e1 := meta_spec k (l.getD i z57).f1.f0 (l.getD i z57).f1.f1 (l.getD i z57).f1.f2 (l.getD i z57).f1.f3 (l.getD i z57).f1.f4 hm.1 hm.2
    have e2 := ih (k + 2) (i + 1) (by omega) (by omega)
    rw [spec_ValidFound.l0, if_pos (by omega), if_pos (by omega), g, spec_l00In_f, w64 (n := (i : Int) + 1) (by omega) (by omega), e1]
    simp only [Option.bind_some]
    have hs : restB l (d + 1) i = (elB l i && restB l d (i + 1)) := rfl
    rw [hs]
    unfold elB metaS
    cases inB (l.getD i z57).f0 0 639
    · rfl
    · rw [if_pos rfl]
      by_cases i0 : i = 0
      · rw [if_neg (by omega)]
        cases metaB (l.getD i z57).f1.f0 (l.getD i z57).f1.f1 (l.getD i z57).f1.f2 (l.getD i z57).f1.f3 (l.getD i z57).f1.f4
        · simp [i0]
        · rw [if_pos rfl]
          by_cases p : (l.getD i z57).f1.f0 = 4
          · rw [if_pos p, p]
            simp [i0]
          · rw [if_neg p]
            have p' : ((l.getD i z57).f1.f0 == 4) = false := by simpa using p
            rw [p']
            refine e2.trans ?_
            simp [i0]
      · have g2 : rd_T57 l ((i : Int) - 1) = l.getD (i - 1) z57 := by
          have t2 : ((i : Int) - 1).toNat = i - 1 := by omega
          simp [rd_T57, t2]
        rw [if_pos (by omega), w64 (by omega) (by omega), if_pos (by omega), if_pos (by omega), g2]
        have i0' : (i == 0) = false := by simpa using i0
        by_cases o : (l.getD (i - 1) z57).f0 ≥ (l.getD i z57).f0
        · rw [if_pos o, decide_eq_false (by omega), i0']
          rfl
        · rw [if_neg o, decide_eq_true (by omega), i0']
          cases metaB (l.getD i z57).f1.f0 (l.getD i z57).f1.f1 (l.getD i z57).f1.f2 (l.getD i z57).f1.f3 (l.getD i z57).f1.f4
          · rfl
          · rw [if_pos rfl]
            by_cases p : (l.getD i z57).f1.f0 = 4
            · rw [if_pos p, p]
              rfl
            · rw [if_neg p]
              have p' : ((l.getD i z57).f1.f0 == 4) = false := by simpa using p
              rw [p']
              exact e2
theorem found_impl (l : List S57) (hl : l.length ≤ 1048576) (h : ∀ x ∈ l, okM x.f1) (d : Nat) : ∀ (k i : Nat), i + d = l.length → d + 2 < k → impl_ValidFound.l0 k l l (l.length : Int) (i : Int) = some (restB l d i && decide ((l.length : Int) ≤ 640)) := by
  induction d with
  | zero =>
    intro k i hi hk
    obtain ⟨k, rfl⟩ : ∃ n, k = n + 1 := ⟨k - 1, by omega⟩
    rw [impl_ValidFound.l0, if_neg (by omega)]
    simp [restB]
  | succ d ih =>
    intro k i hi hk
    obtain ⟨k, rfl⟩ : ∃ n, k = n + 2 + 1 := ⟨k - 3, by omega⟩
    have t : ((i : Int)).toNat = i := by omega
    have g : rd_T57 l (i : Int) = l.getD i z57 := by simp [rd_T57]
    have hm := h _ (getD_mem l i z57 (by omega))
    have e1 := meta_impl k (l.getD i z57).f1.f0 (l.getD i z57).f1.f1 (l.getD i z57).f1.f2 (l.getD i z57).f1.f3 (l.getD i z57).f1.f4 hm.1 hm.2
    have e2 := ih (k + 2) (i + 1) (by omega) (by omega)
    rw [impl_ValidFound.l0, if_pos (by omega), if_pos (by omega), if_pos (by omega), g, impl_within_f, w64 (n := (i : Int) + 1) (by omega) (by omega), e1]
    simp only [Option.bind_some]
    have hs : restB l (d + 1) i = (elB l i && restB l d (i + 1)) := rfl
    rw [hs, Bool.and_assoc]
    unfold elB metaS
    cases inB (l.getD i z57).f0 0 639
    · rfl
    · rw [if_pos rfl]
      by_cases i0 : i = 0
      · rw [if_neg (by omega)]
        cases metaB (l.getD i z57).f1.f0 (l.getD i z57).f1.f1 (l.getD i z57).f1.f2 (l.getD i z57).f1.f3 (l.getD i z57).f1.f4
        · simp [i0]
        · rw [if_pos rfl]
          by_cases p : (l.getD i z57).f1.f0 = 4
          · rw [if_pos p, p]
            simp [i0]
          · rw [if_neg p]
            have p' : ((l.getD i z57).f1.f0 == 4) = false := by simpa using p
            rw [p']
            refine e2.trans ?_
            simp [i0]
      · have g2 : rd_T57 l ((i : Int) - 1) = l.getD (i - 1) z57 := by
          have t2 : ((i : Int) - 1).toNat = i - 1 := by omega
          simp [rd_T57, t2]
        rw [if_pos (by omega), w64 (by omega) (by omega), if_pos (by omega), if_pos (by omega), g2]
        have i0' : (i == 0) = false := by simpa using i0
        by_cases o : (l.getD i z57).f0 ≤ (l.getD (i - 1) z57).f0
        · rw [if_pos o, decide_eq_false (by omega), i0']
          rfl
        · rw [if_neg o, decide_eq_true (by omega), i0']
          cases metaB (l.getD i z57).f1.f0 (l.getD i z57).f1.f1 (l.getD i z57).f1.f2 (l.getD i z57).f1.f3 (l.getD i z57).f1.f4
          · rfl
          · rw [if_pos rfl]
            by_cases p : (l.getD i z57).f1.f0 = 4
            · rw [if_pos p, p]
              rfl
            · rw [if_neg p]
              have p' : ((l.getD i z57).f1.f0 == 4) = false := by simpa using p
              rw [p']
              exact e2
def foundB (l : List S57) : Bool := restB l l.length 0 && decide ((l.length : Int) ≤ 640)
theorem valid_spec (l : List S57) (hl : l.length ≤ 1048576) (h : ∀ x ∈ l, okM x.f1) (k : Nat) (hk : l.length + 2 < k) : spec_ValidFound.f k l = some (foundB l) := by
  unfold spec_ValidFound.f foundB
  by_cases c : (l.length : Int) > 640
  · rw [if_pos c, decide_eq_false (by omega)]
    simp
  · rw [if_neg c, decide_eq_true (by omega), Bool.and_true]
    exact found_spec l hl h l.length k 0 (by omega) hk
theorem valid_impl (l : List S57) (hl : l.length ≤ 1048576) (h : ∀ x ∈ l, okM x.f1) (k : Nat) (hk : l.length + 2 < k) : impl_ValidFound.f k l = some (foundB l) :=
  found_impl l hl h l.length k 0 (by omega) hk
/-! ### Complete groups -/
theorem comp_in (l : List S57) (hl : l.length ≤ 1048576) (first count seq : Int) (B : Nat) (R : Bool) (H : ∀ k, B < k → spec_l10Complete.l0 k l first count (wrap64 (seq + 1)) = some R) (d : Nat) : ∀ (k i : Nat) (met : Bool), i + d = l.length → B + d + 1 < k →
    spec_l10Complete.l1 k l first count seq met (i : Int) = some ((met || (l.drop i).any (isP first count seq)) && R) := by
  induction d with
  | zero =>
    intro k i met hi hk
    obtain ⟨k, rfl⟩ : ∃ q, k = q + 1 := ⟨k - 1, by omega⟩
    rw [spec_l10Complete.l1, if_neg (by omega), List.drop_eq_nil_of_le (by omega)]
    cases met
    · rw [if_neg (by simp)]
      simp
    · rw [if_pos rfl, H k (by omega)]
      simp
  | succ d ih =>
    intro k i met hi hk
    obtain ⟨k, rfl⟩ : ∃ q, k = q + 1 := ⟨k - 1, by omega⟩
    have hlt : i < l.length := by omega
    have er : rd_T57 l (i : Int) = l[i] := by simp [rd_T57, List.getD_eq_getElem?_getD, hlt]
    have e2 : ((i + 1 : Nat) : Int) = (i : Int) + 1 := by omega
    have e := fun met => ih k (i + 1) met (by omega) (by omega)
    rw [e2] at e
    rw [spec_l10Complete.l1, if_pos (by omega), if_pos (by omega), er, w64 (by omega) (by omega), List.drop_eq_getElem_cons hlt, List.any_cons]
    cases met
    · rw [if_neg (by simp)]
      unfold isP at e ⊢
      by_cases c1 : l[i].f1.f0 = 2
      · rw [if_pos c1, beq_iff_eq.2 c1]
        by_cases c2 : l[i].f1.f3 = first
        · rw [if_pos c2, beq_iff_eq.2 c2]
          by_cases c3 : l[i].f1.f4 = count
          · rw [if_pos c3, beq_iff_eq.2 c3, e]
            simp
          · rw [if_neg c3, beq_eq_false_iff_ne.2 c3, e]
            simp
        · rw [if_neg c2, beq_eq_false_iff_ne.2 c2, e]
          simp
      · rw [if_neg c1, beq_eq_false_iff_ne.2 c1, e]
        simp
    · rw [if_pos rfl, e]
      simp
theorem comp_out (l : List S57) (hl : l.length ≤ 640) (first : Int) (m : Nat) (f0 : 0 ≤ first) (f1 : first ≤ 1000000) (hm : m ≤ 4) (d : Nat) : ∀ (k j : Nat), j + d = m → d * 1000 + 1000 < k → spec_l10Complete.l0 k l first (m : Int) (first + (j : Int)) = some (compB l first (m : Int) d j) := by
  induction d with
  | zero =>
    intro k j hj hk
    obtain ⟨k, rfl⟩ : ∃ q, k = q + 1 := ⟨k - 1, by omega⟩
    rw [spec_l10Complete.l0, w64 (by omega) (by omega), if_neg (by omega)]
    rfl
  | succ d ih =>
    intro k j hj hk
    obtain ⟨k, rfl⟩ : ∃ q, k = q + 1 := ⟨k - 1, by omega⟩
    have e2 : first + ((j + 1 : Nat) : Int) = first + (j : Int) + 1 := by omega
    rw [spec_l10Complete.l0, w64 (by omega) (by omega), if_pos (by omega)]
    have e := comp_in l (by omega) first (m : Int) (first + (j : Int)) (d * 1000 + 1000) (compB l first (m : Int) d (j + 1)) (fun k hk => by
      rw [w64 (by omega) (by omega), ← e2]
      exact ih k (j + 1) (by omega) hk) l.length k 0 false (by omega) (by omega)
    have e0 : ((0 : Nat) : Int) = 0 := rfl
    rw [e0, List.drop_zero, Bool.false_or] at e
    rw [e]
    rfl
theorem comp_both (l : List S57) (hl : l.length ≤ 640) (first count : Int) (f0 : 0 ≤ first) (f1 : first ≤ 1000000) (c0 : 0 ≤ count) (c1 : count ≤ 4) (k : Nat) (hk : 6000 < k) : spec_l10Complete.f k l first count = some (compB l first count count.toNat 0) ∧ impl_complete.f l first count = some (compB l first count count.toNat 0) := by
  constructor
  · obtain ⟨m, rfl⟩ : ∃ m : Nat, count = m := ⟨count.toNat, by omega⟩
    unfold spec_l10Complete.f
    have e := comp_out l hl first m f0 f1 (by omega) m k 0 (by omega) (by omega)
    have e0 : first + ((0 : Nat) : Int) = first := by omega
    have em : ((m : Int)).toNat = m := by omega
    rw [e0] at e
    rw [e, em]
  · unfold impl_complete.f
    rw [if_pos ⟨f0, by omega, c0, by omega⟩]
theorem rest_at (l : List S57) (d : Nat) : ∀ i, restB l d i = true → ∀ j, i ≤ j → j < i + d → metaS (rd_T57 l (j : Int)).f1 = true := by
  induction d with
  | zero => intro i _ j h1 h2; omega
  | succ d ih =>
    intro i h j h1 h2
    have h3 := Bool.and_eq_true_iff.1 (show (elB l i && restB l d (i + 1)) = true from h)
    by_cases e : j = i
    · subst e
      have h4 := h3.1
      unfold elB at h4
      simp only [Bool.and_eq_true] at h4
      have h5 : metaS (l.getD j z57).f1 = true := h4.2.2.1
      exact h5
    · exact ih (i + 1) h3.2 j (by omega) (by omega)
theorem meta_two (x : S55) (h : metaS x = true) (h2 : x.f0 = 2) : 0 ≤ x.f3 ∧ x.f3 ≤ 1000000 ∧ 0 ≤ x.f4 ∧ x.f4 ≤ 4 := by
  unfold metaS metaB at h
  rw [h2] at h
  simp [inB] at h
  omega
theorem comm_f (l : List S57) (hl : l.length ≤ 640) (x : S57) (h : metaS x.f1 = true) : impl_committed.f l x.f0 x.f1.f0 x.f1.f1 x.f1.f2 x.f1.f3 x.f1.f4 = some (comm l x) ∧ (x.f1.f0 = 2 → ∀ k, 6000 < k → spec_l10Complete.f k l x.f1.f3 x.f1.f4 = some (comm l x)) ∧ (x.f1.f0 ≠ 2 → comm l x = true) := by
  by_cases c : x.f1.f0 = 2
  · obtain ⟨m1, m2, m3, m4⟩ := meta_two x.f1 h c
    have e : impl_committed.f l x.f0 x.f1.f0 x.f1.f1 x.f1.f2 x.f1.f3 x.f1.f4 = some (compB l x.f1.f3 x.f1.f4 x.f1.f4.toNat 0) := by
      unfold impl_committed.f
      rw [if_pos c, (comp_both l hl x.f1.f3 x.f1.f4 m1 m2 m3 m4 6001 (by omega)).2]
      rfl
    have e2 : comm l x = compB l x.f1.f3 x.f1.f4 x.f1.f4.toNat 0 := by unfold comm; rw [e]; rfl
    rw [e2]
    exact ⟨e, fun _ k hk => (comp_both l hl x.f1.f3 x.f1.f4 m1 m2 m3 m4 k hk).1, fun h => absurd c h⟩
  · have e : impl_committed.f l x.f0 x.f1.f0 x.f1.f1 x.f1.f2 x.f1.f3 x.f1.f4 = some true := by
      unfold impl_committed.f
      rw [if_neg c]
    have e2 : comm l x = true := by unfold comm; rw [e]; rfl
    rw [e2]
    exact ⟨e, fun h => absurd h c, fun _ => rfl⟩
theorem best_pos (l : List S57) (key : Int) (n : Nat) : (bestN l key n).isSome = decide (0 < ((bestN l key n).getD z57).f1.f2) := by
  induction n with
  | zero => rfl
  | succ n ih =>
    rw [bestN]
    by_cases c : (rd_T57 l (n : Int)).f1.f1 = key ∧ takes l (bestN l key n) (rd_T57 l (n : Int)) = true
    · rw [if_pos c]
      have h := (Bool.and_eq_true_iff.1 (show (decide (0 < (rd_T57 l (n : Int)).f1.f2) && _) = true from c.2)).1
      show true = decide (0 < (rd_T57 l (n : Int)).f1.f2)
      rw [h]
    · rw [if_neg c]
      exact ih
def bestR (l : List S57) (key : Int) : Int × Int × Int × Int × Int × Int × Bool := (((bestN l key l.length).getD z57).f0, ((bestN l key l.length).getD z57).f1.f0, ((bestN l key l.length).getD z57).f1.f1, ((bestN l key l.length).getD z57).f1.f2, ((bestN l key l.length).getD z57).f1.f3, ((bestN l key l.length).getD z57).f1.f4, (bestN l key l.length).isSome)
theorem spec_new (l : List S57) (hl : l.length ≤ 640) (hm : ∀ j, j < l.length → metaS (rd_T57 l (j : Int)).f1 = true) (key : Int) (d : Nat) : ∀ (k i : Nat) (y : S57), i + d = l.length → d + 6100 < k → (bestN l key i).getD z57 = y →
    spec_l10Newest.l0 k l key 0 (i : Int) y.f0 y.f1.f0 y.f1.f1 y.f1.f2 y.f1.f3 y.f1.f4 = some (bestR l key) := by
  induction d with
  | zero =>
    intro k i y hi hk hy
    obtain ⟨k, rfl⟩ : ∃ n, k = n + 1 := ⟨k - 1, by omega⟩
    obtain rfl : i = l.length := by omega
    rw [spec_l10Newest.l0, if_neg (by omega)]
    unfold bestR
    rw [best_pos, hy]
  | succ d ih =>
    intro k i y hi hk hy
    obtain ⟨k, rfl⟩ : ∃ n, k = n + 1 := ⟨k - 1, by omega⟩
    have e2 : ((i + 1 : Nat) : Int) = (i : Int) + 1 := by omega
    obtain ⟨q1, q2, q3⟩ := comm_f l hl (rd_T57 l (i : Int)) (hm i (by omega))
    have hb := best_pos l key i
    rw [hy] at hb
    have keep : ¬ ((rd_T57 l (i : Int)).f1.f1 = key ∧ takes l (bestN l key i) (rd_T57 l (i : Int)) = true) → spec_l10Newest.l0 k l key 0 (wrap64 ((i : Int) + 1)) y.f0 y.f1.f0 y.f1.f1 y.f1.f2 y.f1.f3 y.f1.f4 = some (bestR l key) := fun h => by
      rw [w64 (by omega) (by omega), ← e2]
      exact ih k (i + 1) y (by omega) (by omega) (by rw [bestN, if_neg h, hy])
    have take : ((rd_T57 l (i : Int)).f1.f1 = key ∧ takes l (bestN l key i) (rd_T57 l (i : Int)) = true) → spec_l10Newest.l0 k l key 0 (wrap64 ((i : Int) + 1)) (rd_T57 l (i : Int)).f0 (rd_T57 l (i : Int)).f1.f0 (rd_T57 l (i : Int)).f1.f1 (rd_T57 l (i : Int)).f1.f2 (rd_T57 l (i : Int)).f1.f3 (rd_T57 l (i : Int)).f1.f4 = some (bestR l key) := fun h => by
      rw [w64 (by omega) (by omega), ← e2]
      exact ih k (i + 1) (rd_T57 l (i : Int)) (by omega) (by omega) (by rw [bestN, if_pos h]; rfl)
    have tk : takes l (bestN l key i) (rd_T57 l (i : Int)) = (decide (0 < (rd_T57 l (i : Int)).f1.f2) && (comm l (rd_T57 l (i : Int)) && (!decide (0 < y.f1.f2) || decide (y.f1.f2 < (rd_T57 l (i : Int)).f1.f2)))) := by
      unfold takes
      rw [hb, hy]
    have yn : ¬ 0 < y.f1.f2 → y.f1.f2 = 0 := fun h => by
      have h1 : (bestN l key i).isSome = false := by rw [hb]; exact decide_eq_false h
      have h2 : bestN l key i = none := by cases hq : bestN l key i with | none => rfl | some z => rw [hq] at h1; cases h1
      rw [h2] at hy
      rw [← hy]
      rfl
    rw [spec_l10Newest.l0, if_pos (by omega), if_pos (by omega)]
    by_cases c1 : (rd_T57 l (i : Int)).f1.f1 = key
    · rw [if_pos c1]
      by_cases c2 : (rd_T57 l (i : Int)).f1.f2 > 0
      · rw [if_pos c2]
        by_cases c3 : (rd_T57 l (i : Int)).f1.f2 > y.f1.f2
        · rw [if_pos c3]
          have tk2 : takes l (bestN l key i) (rd_T57 l (i : Int)) = comm l (rd_T57 l (i : Int)) := by
            rw [tk, decide_eq_true (p := 0 < (rd_T57 l (i : Int)).f1.f2) c2, decide_eq_true (p := y.f1.f2 < (rd_T57 l (i : Int)).f1.f2) c3]
            simp
          by_cases c4 : (rd_T57 l (i : Int)).f1.f0 = 2
          · rw [if_pos c4, q2 c4 k (by omega)]
            simp only [Option.bind_some]
            by_cases c5 : comm l (rd_T57 l (i : Int)) = true
            · rw [if_pos c5]
              exact take ⟨c1, by rw [tk2]; exact c5⟩
            · rw [if_neg c5]
              exact keep (fun h => c5 (by rw [← tk2]; exact h.2))
          · rw [if_neg c4]
            exact take ⟨c1, by rw [tk2]; exact q3 c4⟩
        · rw [if_neg c3]
          refine keep (fun h => ?_)
          have h2 := h.2
          rw [tk] at h2
          simp only [Bool.and_eq_true, Bool.or_eq_true, Bool.not_eq_true', decide_eq_true_eq, decide_eq_false_iff_not] at h2
          rcases h2.2.2 with h3 | h3
          · have := yn h3
            omega
          · omega
      · rw [if_neg c2]
        refine keep (fun h => ?_)
        have h2 := h.2
        rw [tk] at h2
        simp only [Bool.and_eq_true, decide_eq_true_eq] at h2
        omega
    · rw [if_neg c1]
      exact keep (fun h => c1 h.1)
theorem FnExactNewestOf : laws_FnExactNewestOf.Pure := by
  intro l key hl hk0
  refine ⟨1048601, ?_⟩
  unfold laws_FnExactNewestOf.f
  obtain ⟨m, e1, h1, g1⟩ := sz_found l hl.1 1048576 (by omega) (by omega)
  rw [e1]
  simp only [Option.bind_some]
  by_cases c : m < 0
  · rw [if_pos c]
  · rw [if_neg c]
    have g2 := g1 (by omega)
    have len : (l.map cvF).length = l.length := by simp
    have hwf : ∀ x ∈ l.map cvF, (Lit.int .i64 x.f1.f1).wf = true := fun x hx => by
      obtain ⟨z, hz, rfl⟩ := List.mem_map.1 hx
      have := hl.2 z hz
      exact this.2.2.1
    rw [laws_toFoundS_f l (by omega) 1048601 (by omega)]
    simp only [Option.bind_some]
    obtain ⟨z, z1, z2⟩ : ∃ z, spec_NewestOf.f 1048601 (l.map cvF) key = some z ∧ impl_NewestOf.f 1048601 (l.map cvF) key = some z := by
      unfold spec_NewestOf.f impl_NewestOf.f
      rw [valid_spec (l.map cvF) (by omega) (okM_map l hl.2) 1048601 (by omega), valid_impl (l.map cvF) (by omega) (okM_map l hl.2) 1048601 (by omega)]
      simp only [Option.bind_some]
      by_cases cv : foundB (l.map cvF) = true
      · have hv : (l.map cvF).length ≤ 640 := by
          have h2 := of_decide_eq_true (Bool.and_eq_true_iff.1 cv).2
          omega
        have hm : ∀ j, j < (l.map cvF).length → metaS (rd_T57 (l.map cvF) (j : Int)).f1 = true := fun j hj => rest_at (l.map cvF) (l.map cvF).length 0 (Bool.and_eq_true_iff.1 cv).1 j (Nat.zero_le _) (by omega)
        rw [if_pos cv, if_pos cv]
        have sp := spec_new (l.map cvF) hv hm key (l.map cvF).length 1048601 0 z57 (by omega) (by omega) rfl
        have ft : impl_newest.fits (l.map cvF) key = true := by
          unfold impl_newest.fits
          rw [decide_eq_true (by omega), hk0, Bool.true_and, Bool.true_and, List.all_eq_true]
          intro x hx
          obtain ⟨j, hj, rfl⟩ := List.mem_iff_getElem.1 hx
          have er : rd_T57 (l.map cvF) (j : Int) = (l.map cvF)[j] := by simp only [rd_T57, Int.toNat_natCast, List.getD_eq_getElem?_getD, List.getElem?_eq_getElem hj, Option.getD_some]
          have q := (comm_f (l.map cvF) hv _ (hm j hj)).1
          rw [er] at q
          rw [hwf _ hx, q]
          rfl
        have im : impl_newest.f (l.map cvF) key = some (bestR (l.map cvF) key) := if_pos ft
        rw [im]
        unfold spec_l10Newest.f
        have e0 : ((0 : Nat) : Int) = 0 := rfl
        rw [e0] at sp
        have sp' : spec_l10Newest.l0 1048601 (l.map cvF) key 0 0 0 0 0 0 0 0 = some (bestR (l.map cvF) key) := sp
        rw [sp']
        exact ⟨_, rfl, rfl⟩
      · rw [if_neg cv, if_neg cv]
        exact ⟨_, rfl, rfl⟩
    rw [z1]
    simp only [Option.bind_some]
    rw [z2]
    simp only [Option.bind_some]
    have eq : laws_eqFound.f z.1 z.2.1 z.2.2.1 z.2.2.2.1 z.2.2.2.2.1 z.2.2.2.2.2.1 z.1 z.2.1 z.2.2.1 z.2.2.2.1 z.2.2.2.2.1 z.2.2.2.2.2.1 = some true := by
      unfold laws_eqFound.f laws_eqPageMeta.f
      simp
    rw [eq]
    simp only [Option.bind_some, if_true]
    rw [show (z.2.2.2.2.2.2 != z.2.2.2.2.2.2) = false by simp, show (1048601 : Nat) = 1048600 + 1 from rfl, laws_FnExactNewestOf.j0, if_neg (by simp), laws_toFoundS_f l (by omega) 1048600 (by omega)]
    simp only [Option.bind_some]
    rw [laws_eqFoundS_f (l.map cvF) (by omega) 1048600 (by omega)]
    rfl

end Go.Proofs.Ytenmffpkdfbhbaa.Pure
