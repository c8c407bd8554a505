-- Written by mp.py, a program of this session over the kit's print; the session answers for it, Lean checks it.
import Derived.Test.YtchpgjhbmeokaaaDoorVQFnExactParseFaultsx0
import Derived.Test.YtchpgjhbmeokaaaDoorVQFnExactParseFaultsx7
import Derived.Test.YtchpgjhbmeokaaaDoorVQFnExactParseFaultsx8
import Derived.Test.YtchpgjhbmeokaaaDoorVQFnExactParseFaultsx9
import Derived.Test.YtchpgjhbmeokaaaDoorVQFnExactParseFaultsx10
namespace Go.Proofs.YtchpgjhbmeokaaaDoor.QFnExactParseFaults
open Go.RowKit Go.Proofs.YtchpgjhbmeokaaaDoor.Hand Go.Proofs.YtchpgjhbmeokaaaDoorW.PrintWords Go.Proofs.YtchpgjhbmeokaaaDoorW.PrintLast Go.Proofs.YtchpgjhbmeokaaaDoorW.PrintMore
attribute [local go_sem] max2_int min2_int max_two min_two max_three min_three max_four min_four   -- for this text's walks alone
set_option linter.unusedVariables false
set_option linter.unusedSimpArgs false

/-! ### stringslite_HasSuffix: function 54 -/
def stringslite_HasSuffix.f (a0 : ByteArray) (a1 : ByteArray) : Option (Bool) := if (a0.size : Int) ≥ (a1.size : Int) then (if 0 ≤ (wrap64 ((a0.size : Int) - (a1.size : Int))) then (if (wrap64 ((a0.size : Int) - (a1.size : Int))) ≤ (a0.size : Int) then (some ((a0.extract ((wrap64 ((a0.size : Int) - (a1.size : Int))) : Int).toNat a0.size).toList == a1.toList)) else (none)) else (none)) else (some false)
set_option maxHeartbeats 8000000 in
set_option maxRecDepth 100000 in
theorem stringslite_HasSuffix.calls (a0 : ByteArray) (a1 : ByteArray) (r : Bool) (w : World) (h : stringslite_HasSuffix.f a0 a1 = some r) :
    Calls Tryd.prog 54 #[.string a0, .string a1] w fun e w' => e = .returned (.bool r) ∧ Drawn0 w w' := by
  have H : (if (a0.size : Int) ≥ (a1.size : Int) then (if 0 ≤ (wrap64 ((a0.size : Int) - (a1.size : Int))) then (if (wrap64 ((a0.size : Int) - (a1.size : Int))) ≤ (a0.size : Int) then (some ((a0.extract ((wrap64 ((a0.size : Int) - (a1.size : Int))) : Int).toNat a0.size).toList == a1.toList)) else (none)) else (none)) else (some false)) = some r := h
  clear h
  by_cases c3 : (a0.size : Int) ≥ (a1.size : Int)
  · rw [if_pos c3] at H
    have c3b0 : decide ((a1.size : Int) ≤ (a0.size : Int)) = true := decide_eq_true c3
    have c3b1 : decide (a1.size ≤ a0.size) = true := decide_eq_true (Int.ofNat_le.mp c3)
    clear c3
    obtain ⟨ji4, hji4⟩ : ∃ j_ : Int, (wrap64 ((a0.size : Int) - (a1.size : Int))) = j_ := ⟨_, rfl⟩
    replace H : (if 0 ≤ (ji4) then (if (ji4) ≤ (a0.size : Int) then (some ((a0.extract ((ji4) : Int).toNat a0.size).toList == a1.toList)) else (none)) else (none)) = some r := by first | (rw [hji4] at H; exact H) | (simp only [hji4] at H ⊢; exact H)
    have hji4w : (IntKind.i64.wrap ((a0.size : Int) - (a1.size : Int))) = ji4 := (i64_w _).trans hji4
    by_cases c5 : 0 ≤ (ji4)
    · rw [if_pos c5] at H
      have c5b0 := eq_true c5
      have c5b1 : decide (0 ≤ (ji4)) = true := decide_eq_true c5
      clear c5
      by_cases c6 : (ji4) ≤ (a0.size : Int)
      · rw [if_pos c6] at H
        have c6b0 := eq_true c6
        have c6b1 : decide ((ji4) ≤ (a0.size : Int)) = true := decide_eq_true c6
        clear c6
        obtain rfl := Option.some.inj H
        go_enter Tryd.func54, Tryd.ntmps54
        go_wp2
        go_ret
        exact ⟨by first | rfl | (simp; done) | (simp only [← hji4] <;> (first | rfl | simp)) | (simp [*]; done), by repeat (first | exact Drawn0.refl _ | apply Drawn0.step)⟩
      · rw [if_neg c6] at H
        exact absurd H (by simp)
    · rw [if_neg c5] at H
      exact absurd H (by simp)
  · rw [if_neg c3] at H
    have c3b0 : decide ((a1.size : Int) ≤ (a0.size : Int)) = false := decide_eq_false c3
    have c3b1 : decide (a1.size ≤ a0.size) = false := decide_eq_false (fun h => c3 (Int.ofNat_le.mpr h))
    clear c3
    obtain rfl := Option.some.inj H
    go_enter Tryd.func54, Tryd.ntmps54
    go_wp2
    go_ret
    exact ⟨by first | rfl | (simp; done) | (simp [*]; done), by repeat (first | exact Drawn0.refl _ | apply Drawn0.step)⟩

/-! ### stringslite_TrimSuffix: function 46 -/
def stringslite_TrimSuffix.f (a0 : ByteArray) (a1 : ByteArray) : Option (ByteArray) := (stringslite_HasSuffix.f a0 a1).bind fun t282 => (if t282 = true then (if 0 ≤ (wrap64 ((a0.size : Int) - (a1.size : Int))) then (if (wrap64 ((a0.size : Int) - (a1.size : Int))) ≤ (a0.size : Int) then (some (a0.extract 0 ((wrap64 ((a0.size : Int) - (a1.size : Int))) : Int).toNat)) else (none)) else (none)) else (some a0))
set_option maxHeartbeats 8000000 in
set_option maxRecDepth 100000 in
theorem stringslite_TrimSuffix.calls (a0 : ByteArray) (a1 : ByteArray) (r : ByteArray) (w : World) (h : stringslite_TrimSuffix.f a0 a1 = some r) :
    Calls Tryd.prog 46 #[.string a0, .string a1] w fun e w' => e = .returned (.string r) ∧ Drawn0 w w' := by
  have H : ((stringslite_HasSuffix.f a0 a1).bind fun t282 => (if t282 = true then (if 0 ≤ (wrap64 ((a0.size : Int) - (a1.size : Int))) then (if (wrap64 ((a0.size : Int) - (a1.size : Int))) ≤ (a0.size : Int) then (some (a0.extract 0 ((wrap64 ((a0.size : Int) - (a1.size : Int))) : Int).toNat)) else (none)) else (none)) else (some a0))) = some r := h
  clear h
  replace H := Option.bind_eq_some_iff.mp H
  obtain ⟨t282, A30, H⟩ := H
  replace H : (if t282 = true then (if 0 ≤ (wrap64 ((a0.size : Int) - (a1.size : Int))) then (if (wrap64 ((a0.size : Int) - (a1.size : Int))) ≤ (a0.size : Int) then (some (a0.extract 0 ((wrap64 ((a0.size : Int) - (a1.size : Int))) : Int).toNat)) else (none)) else (none)) else (some a0)) = some r := H
  have A3 := Aside0.mk A30
  clear A30
  by_cases c4 : t282 = true
  · subst c4
    have H1 : (if 0 ≤ (wrap64 ((a0.size : Int) - (a1.size : Int))) then (if (wrap64 ((a0.size : Int) - (a1.size : Int))) ≤ (a0.size : Int) then (some (a0.extract 0 ((wrap64 ((a0.size : Int) - (a1.size : Int))) : Int).toNat)) else (none)) else (none)) = some r := by rw [if_pos rfl] at H; exact H
    clear H
    have H := H1
    clear H1
    obtain ⟨ji5, hji5⟩ : ∃ j_ : Int, (wrap64 ((a0.size : Int) - (a1.size : Int))) = j_ := ⟨_, rfl⟩
    replace H : (if 0 ≤ (ji5) then (if (ji5) ≤ (a0.size : Int) then (some (a0.extract 0 ((ji5) : Int).toNat)) else (none)) else (none)) = some r := by first | (rw [hji5] at H; exact H) | (simp only [hji5] at H ⊢; exact H)
    (try rw [hji5] at A3)
    have hji5w : (IntKind.i64.wrap ((a0.size : Int) - (a1.size : Int))) = ji5 := (i64_w _).trans hji5
    by_cases c6 : 0 ≤ (ji5)
    · rw [if_pos c6] at H
      have c6b0 := eq_true c6
      have c6b1 : decide (0 ≤ (ji5)) = true := decide_eq_true c6
      clear c6
      by_cases c7 : (ji5) ≤ (a0.size : Int)
      · rw [if_pos c7] at H
        have c7b0 := eq_true c7
        have c7b1 : decide ((ji5) ≤ (a0.size : Int)) = true := decide_eq_true c7
        clear c7
        obtain rfl := Option.some.inj H
        go_enter Tryd.func46, Tryd.ntmps46
        go_wp2_with (first | ((with_reducible refine gate_callee (f := 54) rfl ?_); refine goesL_ (some 7) rfl rfl Tryd.func54 (by kernel_rfl) rfl #[.string a0, .string a1] rfl (by (try simp only [List.map_toArray, List.map_cons, List.map_nil]); first | done | rfl | (simp only [List.length_drop, List.length_take]; rfl)) ?_; (with_reducible refine (stringslite_HasSuffix.calls a0 a1 true _ A3.out).mono ?_); rintro e w' ⟨rfl, ⟨nd, rfl⟩⟩; refine ⟨_, rfl, ?_⟩))
        go_ret
        exact ⟨by first | rfl | (simp; done) | (simp only [← hji5] <;> (first | rfl | simp)) | (simp [*]; done), by repeat (first | exact Drawn0.refl _ | apply Drawn0.step)⟩
      · rw [if_neg c7] at H
        exact absurd H (by simp)
    · rw [if_neg c6] at H
      exact absurd H (by simp)
  · replace c4 := Bool.eq_false_iff.mpr c4
    subst c4
    have H1 : (some a0) = some r := by rw [if_neg (show ¬ (false = true) by decide)] at H; exact H
    clear H
    have H := H1
    clear H1
    obtain rfl := Option.some.inj H
    go_enter Tryd.func46, Tryd.ntmps46
    go_wp2_with (first | ((with_reducible refine gate_callee (f := 54) rfl ?_); refine goesL_ (some 7) rfl rfl Tryd.func54 (by kernel_rfl) rfl #[.string a0, .string a1] rfl (by (try simp only [List.map_toArray, List.map_cons, List.map_nil]); first | done | rfl | (simp only [List.length_drop, List.length_take]; rfl)) ?_; (with_reducible refine (stringslite_HasSuffix.calls a0 a1 false _ A3.out).mono ?_); rintro e w' ⟨rfl, ⟨nd, rfl⟩⟩; refine ⟨_, rfl, ?_⟩))
    go_ret
    exact ⟨by first | rfl | (simp; done) | (simp [*]; done), by repeat (first | exact Drawn0.refl _ | apply Drawn0.step)⟩

/-! ### strings_TrimSuffix: function 27 -/
def strings_TrimSuffix.f (a0 : ByteArray) (a1 : ByteArray) : Option (ByteArray) := (stringslite_TrimSuffix.f a0 a1).bind fun t283 => (some t283)
set_option maxHeartbeats 8000000 in
set_option maxRecDepth 100000 in
theorem strings_TrimSuffix.calls (a0 : ByteArray) (a1 : ByteArray) (r : ByteArray) (w : World) (h : strings_TrimSuffix.f a0 a1 = some r) :
    Calls Tryd.prog 27 #[.string a0, .string a1] w fun e w' => e = .returned (.string r) ∧ Drawn0 w w' := by
  have H : ((stringslite_TrimSuffix.f a0 a1).bind fun t283 => (some t283)) = some r := h
  clear h
  replace H := Option.bind_eq_some_iff.mp H
  obtain ⟨t283, A30, H⟩ := H
  replace H : (some t283) = some r := H
  have A3 := Aside0.mk A30
  clear A30
  obtain rfl := Option.some.inj H
  go_enter Tryd.func27, Tryd.ntmps27
  go_wp2_with (first | ((with_reducible refine gate_callee (f := 46) rfl ?_); refine goesL_ (some 7) rfl rfl Tryd.func46 (by kernel_rfl) rfl #[.string a0, .string a1] rfl (by (try simp only [List.map_toArray, List.map_cons, List.map_nil]); first | done | rfl | (simp only [List.length_drop, List.length_take]; rfl)) ?_; (with_reducible refine (stringslite_TrimSuffix.calls a0 a1 t283 _ A3.out).mono ?_); rintro e w' ⟨rfl, ⟨nd, rfl⟩⟩; refine ⟨_, rfl, ?_⟩))
  go_ret
  exact ⟨by first | rfl | (simp; done) | (simp [*]; done), by repeat (first | exact Drawn0.refl _ | apply Drawn0.step)⟩

/-! ### impl_ParseFaults: function 12 (a text of the session's own) -/
def okScript (a b c : Int) (l : List (S40)) : Bool := geoB a b c && (decide ((l.length : Int) ≤ 40) && !(l.any (fun x => !(faultB a b c x.f0 x.f1 x.f2 x.f3))))
theorem okScript_f (a b c : Int) (l : List (S40)) : impl_scriptOk.f a b c l = some (okScript a b c l) := rfl
theorem okScript_true {a b c : Int} {l : List (S40)} (h : okScript a b c l = true) : geoB a b c = true ∧ l.length ≤ 40 ∧ ∀ x ∈ l, faultB a b c x.f0 x.f1 x.f2 x.f3 = true := by
  unfold okScript at h
  simp only [Bool.and_eq_true, decide_eq_true_eq, Bool.not_eq_true', List.any_eq_false, Bool.not_eq_false] at h
  refine ⟨h.1, by omega, fun x hx => ?_⟩
  have h2 := h.2.2 x hx
  simpa using h2
theorem fault_okF {a b c : Int} {x : S40} (hg : geoB a b c = true) (h : faultB a b c x.f0 x.f1 x.f2 x.f3 = true) : okF x := by
  obtain ⟨g1, g2, g3, g4, g5⟩ := geo_bounds hg
  have m1 : a * b ≤ 3 * 12 := Int.mul_le_mul g2 g4 (by omega) (by decide)
  unfold okF okN
  simp only [faultB, inB] at h
  generalize a * b = ab at *
  split at h
  · simp only [Bool.and_eq_true, decide_eq_true_eq, beq_iff_eq] at h
    omega
  · split at h
    · simp only [Bool.and_eq_true, decide_eq_true_eq, beq_iff_eq] at h
      omega
    · split at h
      · simp only [Bool.and_eq_true, decide_eq_true_eq, beq_iff_eq] at h
        omega
      · split at h
        · simp only [Bool.and_eq_true, decide_eq_true_eq, beq_iff_eq] at h
          omega
        · simp at h
theorem wordK_len {k : Int} (h1 : 1 ≤ k) (h5 : k ≤ 5) : (wordK k).data.toList.length ≤ 9 := by
  obtain rfl | rfl | rfl | rfl | rfl : k = 1 ∨ k = 2 ∨ k = 3 ∨ k = 4 ∨ k = 5 := by omega
  all_goals decide
theorem numL_len {n : Int} (h : okN n) : (numL n).length ≤ 22 := by
  have e := Lib.itoa_length_le n (by have := h.1; omega) (by have := h.2; omega)
  unfold numL
  rw [List.length_cons]
  omega
theorem flat_len (f : Int → List UInt8) (l : List Int) (h : ∀ n ∈ l, (f n).length ≤ 22) : (l.flatMap f).length ≤ 22 * l.length := by
  induction l with
  | nil => simp
  | cons a t ih =>
    have h1 := ih (fun n hn => h n (List.mem_cons_of_mem _ hn))
    have h2 := h a List.mem_cons_self
    rw [List.flatMap_cons, List.length_append, List.length_cons]
    omega
theorem lineL_len {x : S40} (h : okF x) : (lineL x).length ≤ 100 := by
  have h1 := wordK_len h.1.1 h.1.2
  have h2 := flat_len numL (numsF x) (fun n hn => numL_len (nums_ok h n hn))
  have h3 : (numsF x).length ≤ 3 := by unfold numsF; (repeat' split) <;> simp
  unfold lineL
  simp only [List.length_append, List.length_cons, List.length_nil]
  omega
theorem textL_len (l : List (S40)) (h : ∀ x ∈ l, okF x) : (textL l).length ≤ 100 * l.length := by
  induction l with
  | nil => simp [textL]
  | cons a t ih =>
    have h1 := ih (fun n hn => h n (List.mem_cons_of_mem _ hn))
    have h2 := lineL_len (h a List.mem_cons_self)
    unfold textL at h1 ⊢
    rw [List.flatMap_cons, List.length_append, List.length_cons]
    omega
def txt (l : List UInt8) : ByteArray := ⟨l.toArray⟩
def trimB (x : ByteArray) : ByteArray := ⟨(Lib.trimSuffix x.data.toList [10]).toArray⟩
def readF (k : Nat) (x : ByteArray) : Option (Int × Int × Int × Int × Bool) := impl_readFault.f k (trimB x)
def okLine (k : Nat) (x : ByteArray) : Bool := ((readF k x).getD (0, 0, 0, 0, false)).2.2.2.2
def faultOf (k : Nat) (x : ByteArray) : S40 := let r := (readF k x).getD (0, 0, 0, 0, false); ⟨r.1, r.2.1, r.2.2.1, r.2.2.2.1⟩
def parseL (k : Nat) (l : List ByteArray) : List S40 := l.map (faultOf k)
def goodL (k : Nat) (a b c : Int) (s : ByteArray) : Bool := (Rng.linesOf s).all (okLine k) && (okScript a b c (parseL k (Rng.linesOf s)) && decide (textL (parseL k (Rng.linesOf s)) = s.data.toList))
def impl_ParseFaults.f (k : Nat) (a0_0 a0_1 a0_2 : Int) (a1 : ByteArray) : Option (List S40 × Int) :=
  if a1.size ≤ 1048576 ∧ ∀ x ∈ Rng.linesOf a1, (readF k x).isSome = true then some (if geoB a0_0 a0_1 a0_2 = true then (if goodL k a0_0 a0_1 a0_2 a1 = true then (parseL k (Rng.linesOf a1), 0) else ([], 10)) else ([], 1)) else none
theorem readF_up {k : Nat} {x : ByteArray} (h : (readF k x).isSome = true) : readF (k + 1) x = readF k x := by
  obtain ⟨r, hr⟩ := Option.isSome_iff_exists.1 h
  rw [hr]
  exact impl_readFault.mono (trimB x) k r hr
theorem parseL_up {k : Nat} {l : List ByteArray} (h : ∀ x ∈ l, (readF k x).isSome = true) : parseL (k + 1) l = parseL k l := by
  unfold parseL
  refine List.map_congr_left (fun x hx => ?_)
  unfold faultOf
  rw [readF_up (h x hx)]
theorem okAll_up {k : Nat} : ∀ {l : List ByteArray}, (∀ x ∈ l, (readF k x).isSome = true) → l.all (okLine (k + 1)) = l.all (okLine k)
  | [], _ => rfl
  | x :: l, h => by
    rw [List.all_cons, List.all_cons, okAll_up (fun y hy => h y (List.mem_cons_of_mem _ hy))]
    unfold okLine
    rw [readF_up (h x List.mem_cons_self)]
theorem impl_ParseFaults.mono (a0_0 a0_1 a0_2 : Int) (a1 : ByteArray) (k : Nat) : LeO (impl_ParseFaults.f k a0_0 a0_1 a0_2 a1) (impl_ParseFaults.f (k + 1) a0_0 a0_1 a0_2 a1) := by
  intro r h
  unfold impl_ParseFaults.f at h ⊢
  split at h
  case isFalse => exact absurd h (by simp)
  case isTrue hc =>
    rw [if_pos ⟨hc.1, fun x hx => by rw [readF_up (hc.2 x hx)]; exact hc.2 x hx⟩]
    have e : goodL (k + 1) a0_0 a0_1 a0_2 a1 = goodL k a0_0 a0_1 a0_2 a1 := by
      unfold goodL
      rw [okAll_up hc.2, parseL_up hc.2]
    rw [e, parseL_up hc.2]
    exact h
theorem linesF_len : ∀ (k : Nat) (s : ByteArray), (Rng.linesF k s).length ≤ k
  | 0, _ => Nat.le_refl _
  | k + 1, s => by
    rw [Rng.linesF]
    split
    · simp
    · split
      · simp
      · have := linesF_len k (s.extract ((Lib.indexByte s.data.toList Rng.nl).toNat + 1) s.size)
        simp only [List.length_cons]
        omega
def RowF (W : World) (base : Nat) (v : Value) (acc : List S40) : Prop := ∃ inner, W.ownsRow base 40 4 v acc.length inner ∧ ∀ (W2 : World) (b2 : Nat) (ok : Nat → Prop), Reps (k40.M W2 b2 ok) 4 acc inner
theorem RowF.r {W : World} {base : Nat} {v : Value} {acc : List S40} (h : RowF W base v acc) : Kd.R k40 40 W base (fun _ => True) v acc := by
  obtain ⟨inner, h1, h2⟩ := h
  exact ⟨fun _ _ => trivial, inner, h1, h2 _ _ _⟩
theorem RowF.nil (W : World) (base : Nat) : RowF W base (.slice none 0 0) [] := ⟨[], ⟨rfl, .inl ⟨rfl, rfl⟩⟩, fun _ _ _ => Reps.none _ _⟩
theorem RowF.move {W W' : World} {base : Nat} {v : Value} {acc : List S40} (h : RowF W base v acc) (hm : ∀ (g : Nat) (cur : Array Value), W.heap[g]? = some (.cells cur 40 (0, 0)) → W'.heap[g]? = some (.cells cur 40 (0, 0))) : RowF W' base v acc := by
  obtain ⟨inner, ⟨h1, h2⟩, h3⟩ := h
  refine ⟨inner, ⟨h1, ?_⟩, h3⟩
  rcases h2 with h | ⟨g, cap, cur, e1, e2, e3, e4⟩
  · exact .inl h
  · exact .inr ⟨g, cap, cur, e1, e2, hm _ _ e3, e4⟩
structure PFI (w : World) (a b c : Int) (b6 b7 : Nat) (acc : List S40) (W : World) : Prop where
  h1 : W.heap[w.heap.size]? = some (.cells #[.int .i64 a, .int .i64 b, .int .i64 c] 27 (0, 0))
  h4 : W.heap[w.heap.size + 1]? = some (.cells #[.slice none 0 0] 29 (0, 0))
  h5 : W.heap[w.heap.size + 1 + 1]? = some (.cells #[.int .i64 0] 2 (0, 0))
  h6 : ∃ v, W.heap[b6]? = some (.cells #[v] 29 (0, 0)) ∧ RowF W w.heap.size v acc
  h7 : ∃ cs, W.heap[b7]? = some (.cells cs 9 (0, 0))
  bel : Below w.heap.size w W
theorem PFI.move {w : World} {a b c : Int} {b6 b7 : Nat} {acc : List S40} {W W' : World} (h : PFI w a b c b6 b7 acc W) (hb : Below w.heap.size w W') (hm : ∀ (g : Nat) (cur : Array Value) (t : Nat), W.heap[g]? = some (.cells cur t (0, 0)) → W'.heap[g]? = some (.cells cur t (0, 0))) : PFI w a b c b6 b7 acc W' := by
  obtain ⟨h1, h4, h5, ⟨v, h6, hr⟩, ⟨cs, h7⟩, _⟩ := h
  exact ⟨hm _ _ _ h1, hm _ _ _ h4, hm _ _ _ h5, ⟨v, hm _ _ _ h6, RowF.move hr (fun g cur e => hm _ _ _ e)⟩, ⟨cs, hm _ _ _ h7⟩, hb⟩
theorem PFI.next {w : World} {a b c : Int} {b6 b7 : Nat} {acc : List S40} {W W' : World} (h : PFI w a b c b6 b7 acc W) (hb : Below W.heap.size W W') : PFI w a b c b6 b7 acc W' := h.move (below_step h.bel hb) (fun g cur t e => blk_below e hb)
theorem PFI.cell {w : World} {a b c : Int} {b6 b7 : Nat} {acc : List S40} {W : World} (h : PFI w a b c b6 b7 acc W) (h7 : w.heap.size ≤ b7) (v : Value) : PFI w a b c b6 b7 acc (W.setCell ⟨b7, 0, none⟩ v) := by
  obtain ⟨h1, h4, h5, ⟨u, h6, hr⟩, ⟨cs, h7c⟩, hb⟩ := h
  have hm : ∀ (g : Nat) (cur : Array Value) (t : Nat), t ≠ 9 → W.heap[g]? = some (.cells cur t (0, 0)) → (W.setCell ⟨b7, 0, none⟩ v).heap[g]? = some (.cells cur t (0, 0)) := fun g cur t ht e => by
    rw [Below.heap_setCell W ⟨b7, 0, none⟩ v g ?_]
    · exact e
    · rintro rfl
      rw [h7c] at e
      injection e with e
      injection e with _ e
      exact ht e.symm
  exact ⟨hm _ _ _ (by decide) h1, hm _ _ _ (by decide) h4, hm _ _ _ (by decide) h5, ⟨u, hm _ _ _ (by decide) h6, RowF.move hr (fun g cur e => hm g cur 40 (by decide) e)⟩, ⟨_, heap_setCell_same W b7 0 cs 9 v h7c⟩, hb.setCell (p := ⟨b7, 0, none⟩) h7 _⟩
theorem linesF_size : ∀ (k : Nat) (s x : ByteArray), x ∈ Rng.linesF k s → x.size ≤ s.size
  | 0, _, _, h => by simp [Rng.linesF] at h
  | k + 1, s, x, h => by
    rw [Rng.linesF] at h
    split at h
    · simp at h
    · split at h
      · simp at h; subst h; exact Nat.le_refl _
      · rcases List.mem_cons.1 h with rfl | h
        · rw [ByteArray.size_extract]; omega
        · have := linesF_size k _ x h
          rw [ByteArray.size_extract] at this
          omega
theorem kf_below {B : Nat} {W W' : World} (h : Below W.heap.size W W') : KeepsFrom B W W' := ⟨h.size, fun k o _ e _ => blk_below e h⟩
theorem pf_e4 {W : World} {a : Nat} {v u v0 : Value} (h : W.heap[a]? = some (.cells #[v0] 29 (0, 0))) : ((W.setCell ⟨a, 0, none⟩ v).setCell ⟨a + 1, 0, none⟩ u).heap[a]? = some (.cells #[v] 29 (0, 0)) := by
  rw [Below.heap_setCell _ ⟨a + 1, 0, none⟩ _ _ (by show a ≠ a + 1; omega)]
  exact heap_setCell_same W _ 0 _ 29 _ h
theorem pf_e5 {W : World} {a : Nat} {v u v0 : Value} (h : W.heap[a + 1]? = some (.cells #[v0] 2 (0, 0))) : ((W.setCell ⟨a, 0, none⟩ v).setCell ⟨a + 1, 0, none⟩ u).heap[a + 1]? = some (.cells #[u] 2 (0, 0)) :=
  heap_setCell_same _ _ 0 _ 2 _ ((Below.heap_setCell W ⟨a, 0, none⟩ _ _ (by show a + 1 ≠ a; omega)).trans h)
theorem pf_row29 {W : World} {a : Nat} {v v0 : Value} (h : W.heap[a]? = some (.cells #[v0] 29 (0, 0))) (g : Nat) (cur : Array Value) (e : W.heap[g]? = some (.cells cur 40 (0, 0))) : (W.setCell ⟨a, 0, none⟩ v).heap[g]? = some (.cells cur 40 (0, 0)) := by
  rw [Below.heap_setCell W ⟨a, 0, none⟩ _ g ?_]
  · exact e
  · rintro rfl
    rw [h] at e
    injection e with e
    injection e with _ e
    cases e
theorem pf_row2 {W : World} {a : Nat} {v v0 : Value} (h : W.heap[a]? = some (.cells #[v0] 2 (0, 0))) (g : Nat) (cur : Array Value) (e : W.heap[g]? = some (.cells cur 40 (0, 0))) : (W.setCell ⟨a, 0, none⟩ v).heap[g]? = some (.cells cur 40 (0, 0)) := by
  rw [Below.heap_setCell W ⟨a, 0, none⟩ _ g ?_]
  · exact e
  · rintro rfl
    rw [h] at e
    injection e with e
    injection e with _ e
    cases e
section
open Go Go.Proofs Go.Shelf
attribute [local go_sem] Oper.semAt_some
set_option maxRecDepth 100000 in
set_option maxHeartbeats 2000000 in
theorem impl_ParseFaults.calls (k : Nat) (a0_0 a0_1 a0_2 : Int) (a1 : ByteArray) (r1 : List S40) (r2 : Int) (w : World) (hg : Bld.G0 w) (h : impl_ParseFaults.f k a0_0 a0_1 a0_2 a1 = some (r1, r2)) :
    Calls Tryd.prog 12 #[.agg #[.int .i64 a0_0, .int .i64 a0_1, .int .i64 a0_2], .string a1] w fun e w' => ∃ v0_ : Value, e = .returned (.tuple #[v0_, .int .i64 r2]) ∧ Kd.R k40 40 w' w.heap.size (fun _ => True) v0_ r1 ∧ Below w.heap.size w w' := by
  have hu27 := Tryd.underlying27
  have hu40 := Tryd.underlying40
  have hu29 := Tryd.underlying29
  unfold impl_ParseFaults.f at h
  split at h
  case isFalse => exact absurd h (by simp)
  case isTrue hcond =>
  have h := Option.some.inj h
  have HG := Aside0.mk hg
  have HV := Aside0.mk (geo_impl a0_0 a0_1 a0_2)
  refine (callsIn_wide (n := 3)).1 ?_
  refine callsIn_of_wp_marks Tryd.func12 rfl trivial ?_ rfl
  simp only [Tryd.ntmps12, List.size_toArray, List.length_cons, List.length_nil, Nat.reduceAdd, Nat.reduceSub, Array.replicate_succ, Array.replicate_zero, List.push_toArray, List.append_toArray, List.nil_append, List.cons_append]
  obtain ⟨W0, hW0⟩ : ∃ W0, ((w.alloc (.cells #[.int .i64 a0_0, .int .i64 a0_1, .int .i64 a0_2] 27)).alloc (.cells #[.slice none 0 0] 29)).alloc (.cells #[.int .i64 0] 2) = W0 := ⟨_, rfl⟩
  have h1 : W0.heap[w.heap.size]? = some (.cells #[.int .i64 a0_0, .int .i64 a0_1, .int .i64 a0_2] 27 (0, 0)) := by rw [← hW0]; exact blk_alloc (blk_alloc (heap_alloc_new w _) _) _
  have h4 : W0.heap[w.heap.size + 1]? = some (.cells #[.slice none 0 0] 29 (0, 0)) := by
    rw [← hW0]
    have := heap_alloc_new (w.alloc (.cells #[.int .i64 a0_0, .int .i64 a0_1, .int .i64 a0_2] 27)) (.cells #[.slice none 0 0] 29)
    rw [World.size_alloc] at this
    exact blk_alloc this _
  have h5 : W0.heap[w.heap.size + 1 + 1]? = some (.cells #[.int .i64 0] 2 (0, 0)) := by
    rw [← hW0]
    have := heap_alloc_new ((w.alloc (.cells #[.int .i64 a0_0, .int .i64 a0_1, .int .i64 a0_2] 27)).alloc (.cells #[.slice none 0 0] 29)) (.cells #[.int .i64 0] 2)
    rw [World.size_alloc, World.size_alloc] at this
    exact this
  have hB0 : Below w.heap.size w W0 := by rw [← hW0]; exact below_alloc (below_alloc (below_alloc (Below.refl _ _) _) _) _
  have c1_0 : W0.cell? ⟨w.heap.size, 0, none⟩ = some (.int .i64 a0_0) := (blk_cell h1 0).trans rfl
  have c1_1 : W0.cell? ⟨w.heap.size, 1, none⟩ = some (.int .i64 a0_1) := (blk_cell h1 1).trans rfl
  have c1_2 : W0.cell? ⟨w.heap.size, 2, none⟩ = some (.int .i64 a0_2) := (blk_cell h1 2).trans rfl
  cases hgeo : geoB a0_0 a0_1 a0_2 with
  | false =>
    rw [hgeo] at HV h
    gi_wp2_with (refine ⟨trivial, ?_⟩; gi_at_call 24; refine (callsIn_wide.2 (impl_ValidGeometry.calls a0_0 a0_1 a0_2 false _ HV.out)).mono ?_; rintro e w1 ⟨rfl, hb1⟩; have h41 := blk_below h4 hb1; have h51 := blk_below h5 hb1; have c41 : w1.cell? ⟨w.heap.size + 1, 0, none⟩ = some (.slice none 0 0) := (blk_cell h41 0).trans rfl; have c51 : w1.cell? ⟨w.heap.size + 1 + 1, 0, none⟩ = some (.int .i64 0) := (blk_cell h51 0).trans rfl; have f41 := blk_frozen h41 0; have f51 := blk_frozen h51 0)
    simp only [Bool.false_eq_true, if_false, Prod.mk.injEq] at h
    obtain ⟨rfl, rfl⟩ := h
    have hB1 := below_step hB0 hb1
    have d4 : ((w1.setCell ⟨w.heap.size + 1, 0, none⟩ (.slice none 0 0)).setCell ⟨w.heap.size + 1 + 1, 0, none⟩ (.int .i64 1)).cell? ⟨w.heap.size + 1, 0, none⟩ = some (.slice none 0 0) := (cell_far (p := ⟨w.heap.size + 1 + 1, 0, none⟩) (by show w.heap.size + 1 ≠ w.heap.size + 1 + 1; omega) _).trans (World.cell?_setCell_same' _ _ _ (by rw [c41]; rfl))
    have d5 : ((w1.setCell ⟨w.heap.size + 1, 0, none⟩ (.slice none 0 0)).setCell ⟨w.heap.size + 1 + 1, 0, none⟩ (.int .i64 1)).cell? ⟨w.heap.size + 1 + 1, 0, none⟩ = some (.int .i64 1) := World.cell?_setCell_same' _ _ _ (by rw [cell_far (p := ⟨w.heap.size + 1, 0, none⟩) (by show w.heap.size + 1 + 1 ≠ w.heap.size + 1; omega), c51]; rfl)
    refine ⟨.tuple #[.slice none 0 0, .int .i64 1], ?_, ⟨_, rfl, Kd.R_nil _ _ _ _ _, (hB1.setCell (p := ⟨w.heap.size + 1, 0, none⟩) (by show _ ≤ w.heap.size + 1; omega) _).setCell (p := ⟨w.heap.size + 1 + 1, 0, none⟩) (by show _ ≤ w.heap.size + 1 + 1; omega) _⟩⟩
    simp [results, Tryd.f12, go_sem, d4, d5]
  | true =>
    rw [hgeo] at HV h
    rw [if_pos rfl] at h
    have HC := Aside0.mk hcond
    have HE := Aside0.mk h
    clear hcond h
    gi_wp2_with (first | (refine ⟨trivial, ?_⟩; gi_at_call 24; refine (callsIn_wide.2 (impl_ValidGeometry.calls a0_0 a0_1 a0_2 true _ HV.out)).mono ?_; rintro e w1 ⟨rfl, hb1⟩) | (refine ⟨trivial, ?_⟩; gi_at_call 25; refine (callsIn_wide.2 (Rng.lines a1 _)).mono ?_; rintro e w3 ⟨rfl, hw3⟩))
    obtain ⟨b6, hb6⟩ : ∃ b6, w1.heap.size = b6 := ⟨_, rfl⟩
    have hlt : w.heap.size + 1 + 1 < b6 := by rw [← hb6]; exact blk_lt (blk_below h5 hb1)
    have g6 : w3.heap[b6]? = some (.cells #[.slice none 0 0] 29 (0, 0)) := by rw [hw3, ← hb6]; exact blk_alloc (heap_alloc_new w1 _) _
    have g7 : w3.heap[b6 + 1]? = some (.cells #[.string a1] 9 (0, 0)) := by
      rw [hw3, ← hb6]
      have := heap_alloc_new (w1.alloc (.cells #[.slice none 0 0] 29)) (.cells #[.string a1] 9)
      rw [World.size_alloc] at this
      exact this
    have hb13 : Below w1.heap.size w1 w3 := by rw [hw3]; exact below_alloc (below_alloc (Below.refl _ _) _) _
    have hP : PFI w a0_0 a0_1 a0_2 b6 (b6 + 1) [] w3 := ⟨blk_below (blk_below h1 hb1) hb13, blk_below (blk_below h4 hb1) hb13, blk_below (blk_below h5 hb1) hb13, ⟨_, g6, RowF.nil _ _⟩, ⟨_, g7⟩, below_step (below_step hB0 hb1) hb13⟩
    rw [hb6, ← hw3]
    have hsz := HC.out.1
    clear hb1 hb13 h1 h4 h5 hB0 c1_0 c1_1 c1_2 hw3 hb6 g6
    refine Rng.range_lines (F := Fence.wide) (n := 3) (b := b6 + 1) (xs := Rng.linesOf a1) rfl (by decide) rfl trivial (enters_of Tryd.func41 (by kernel_rfl) rfl) (Rng.lines_gives 2 _ a1 _ (by decide) (by omega) g7) (blk_lt g7) rfl
      (fun pre W => pre.all (okLine k) = true ∧ PFI w a0_0 a0_1 a0_2 b6 (b6 + 1) (parseL k pre) W)
      (fun cd pre W => (cd = .ret ∧ pre <+: Rng.linesOf a1 ∧ pre.all (okLine k) = false ∧ W.heap[w.heap.size + 1]? = some (.cells #[.slice none 0 0] 29 (0, 0)) ∧ W.heap[w.heap.size + 1 + 1]? = some (.cells #[.int .i64 10] 2 (0, 0))) ∧ Below w.heap.size w W)
      ?own (fun p V v h => ⟨h.1, h.2.cell (by omega) v⟩) ?ownx ⟨rfl, hP⟩ (fun x => { tmps := #[.agg #[.int .i64 a0_0, .int .i64 a0_1, .int .i64 a0_2], .string a1, .pointer (some ⟨w.heap.size, 0, none⟩), undef, .pointer (some ⟨w.heap.size + 1, 0, none⟩), .pointer (some ⟨w.heap.size + 1 + 1, 0, none⟩), .pointer (some ⟨b6, 0, none⟩), .string x, undef, undef, .agg #[.int .i64 a0_0, .int .i64 a0_1, .int .i64 a0_2], .bool true, .bool false, .string a1, .func (.func 41) #[] #[.pointer (some ⟨b6 + 1, 0, none⟩)], .string x, undef, undef, undef, undef, undef, undef, undef, undef, undef, undef, undef, undef, undef, undef, undef, undef, undef, undef, undef, undef, undef, undef, undef], defers := [] }) ?assign ?body ?done ?stop
    case own =>
      intro p V V' row h hg hr
      refine ⟨h.1, h.2.move (h.2.bel.grown hg h.2.bel.size (fun j e => Nat.le_trans hP.bel.size (hr j e).1)) (fun g cur t e => (grownBy_keeps_cells hg (fun r e => (hr r e).2) e rfl).trans e)⟩
    case ownx =>
      intro cd p V V' row h hg hr
      obtain ⟨⟨e1, e2, e3, e4, e5⟩, hb⟩ := h
      exact ⟨⟨e1, e2, e3, (grownBy_keeps_cells hg (fun r e => (hr r e).2) e4 rfl).trans e4, (grownBy_keeps_cells hg (fun r e => (hr r e).2) e5 rfl).trans e5⟩, hb.grown hg hb.size (fun j e => Nat.le_trans hP.bel.size (hr j e).1)⟩
    case assign =>
      intro l x W K hK
      gi_wp2
      exact hK
    case body =>
      rintro l pre x W ⟨hall, hI⟩ hpx
      have hx : x ∈ Rng.linesOf a1 := hpx.subset (by simp)
      have hsome := HC.out.2 x hx
      have hxs : x.size ≤ 9223372036854775807 := by have := linesF_size a1.size a1 x hx; omega
      have hfa : faultOf k x = ⟨(((readF k x).getD (0, 0, 0, 0, false)).1), ((readF k x).getD (0, 0, 0, 0, false)).2.1, ((readF k x).getD (0, 0, 0, 0, false)).2.2.1, ((readF k x).getD (0, 0, 0, 0, false)).2.2.2.1⟩ := rfl
      have hok : okLine k x = ((readF k x).getD (0, 0, 0, 0, false)).2.2.2.2 := rfl
      obtain ⟨⟨q0, q1, q2, q3, q4⟩, hq⟩ := Option.isSome_iff_exists.1 hsome
      rw [hq] at hfa hok
      simp only [Option.getD_some] at hfa hok
      have hd : 1 ≤ 3 - 1 - 1 := by decide
      have HI := Aside0.mk hI
      have HQ := Aside0.mk (show impl_readFault.f k (trimB x) = some (q0, q1, q2, q3, q4) from hq)
      have HF := Aside0.mk hfa
      have HO := Aside0.mk hok
      have HPX := Aside0.mk hpx
      have HALL := Aside0.mk hall
      clear hI hq hfa hok hpx hall hx hsome
      cases q4 with
      | false =>
        gi_wp2_with (first | (refine ⟨trivial, ?_⟩; gi_at_call 27; refine (CallsIn.inRound l (callsIn_wide.2 (Tryd.strings_TrimSuffix x _ _ hxs))).mono ?_; rintro e w4 ⟨rfl, rfl⟩) | (refine ⟨trivial, ?_⟩; gi_at_call 26; refine (CallsIn.inRound l (callsIn_wide.2 (impl_readFault.calls k (trimB x) q0 q1 q2 q3 false _ (HG.out.below HI.out.bel) HQ.out))).mono ?_; rintro e w5 ⟨rfl, hb5⟩; obtain ⟨W6, hW6⟩ : ∃ W6, w5.alloc (.cells #[.int .i64 q0, .int .i64 q1, .int .i64 q2, .int .i64 q3] 40) = W6 := ⟨_, rfl⟩; have hb56 : Below w5.heap.size w5 W6 := (by rw [← hW6]; exact below_alloc (Below.refl _ _) _); have HB6 := Aside0.mk (below_step hb5 hb56); have HI6 := Aside0.mk (PFI.next (PFI.next HI.out hb5) hb56); have hx6 : W6.heap[w5.heap.size]? = some (.cells #[.int .i64 q0, .int .i64 q1, .int .i64 q2, .int .i64 q3] 40 (0, 0)) := (by rw [← hW6]; exact heap_alloc_new _ _); have c4 : W6.cell? ⟨w.heap.size + 1, 0, none⟩ = some (.slice none 0 0) := (blk_cell HI6.out.h4 0).trans rfl; have f4 := blk_frozen HI6.out.h4 0; have c5 : W6.cell? ⟨w.heap.size + 1 + 1, 0, none⟩ = some (.int .i64 0) := (blk_cell HI6.out.h5 0).trans rfl; have f5 := blk_frozen HI6.out.h5 0; obtain ⟨v6, h6, hrow6⟩ := HI6.out.h6; have c6 : W6.cell? ⟨b6, 0, none⟩ = some v6 := (blk_cell h6 0).trans rfl; have f6 := blk_frozen h6 0; have x0 : W6.cell? ⟨w5.heap.size, 0, none⟩ = some (.int .i64 q0) := (blk_cell hx6 0).trans rfl; have x1 : W6.cell? ⟨w5.heap.size, 1, none⟩ = some (.int .i64 q1) := (blk_cell hx6 1).trans rfl; have x2 : W6.cell? ⟨w5.heap.size, 2, none⟩ = some (.int .i64 q2) := (blk_cell hx6 2).trans rfl; have x3 : W6.cell? ⟨w5.heap.size, 3, none⟩ = some (.int .i64 q3) := (blk_cell hx6 3).trans rfl; clear hb5 hb56))
        have e4 : ((W6.setCell ⟨w.heap.size + 1, 0, none⟩ (.slice none 0 0)).setCell ⟨w.heap.size + 1 + 1, 0, none⟩ (.int .i64 10)).heap[w.heap.size + 1]? = some (.cells #[.slice none 0 0] 29 (0, 0)) := by
          rw [Below.heap_setCell _ ⟨w.heap.size + 1 + 1, 0, none⟩ _ _ (by show w.heap.size + 1 ≠ w.heap.size + 1 + 1; omega)]
          exact heap_setCell_same W6 _ 0 _ 29 _ HI6.out.h4
        have e5 : ((W6.setCell ⟨w.heap.size + 1, 0, none⟩ (.slice none 0 0)).setCell ⟨w.heap.size + 1 + 1, 0, none⟩ (.int .i64 10)).heap[w.heap.size + 1 + 1]? = some (.cells #[.int .i64 10] 2 (0, 0)) :=
          heap_setCell_same _ _ 0 _ 2 _ ((Below.heap_setCell W6 ⟨w.heap.size + 1, 0, none⟩ _ _ (by show w.heap.size + 1 + 1 ≠ w.heap.size + 1; omega)).trans HI6.out.h5)
        exact ⟨((kf_below HB6.out).trans ((KeepsOthers.setCell _ _ _).from _)).trans ((KeepsOthers.setCell _ _ _).from _), ⟨rfl, HPX.out, by rw [List.all_append, HALL.out]; simp [HO.out], e4, e5⟩, (HI6.out.bel.setCell (p := ⟨w.heap.size + 1, 0, none⟩) (by show _ ≤ w.heap.size + 1; omega) _).setCell (p := ⟨w.heap.size + 1 + 1, 0, none⟩) (by show _ ≤ w.heap.size + 1 + 1; omega) _⟩
      | true =>
        obtain ⟨i0, hi, hz0, hz1, hz2⟩ := info_parts info40
        have HLEN : Aside0 ((parseL k pre).length ≤ 1048576) := ⟨by
          have h1 := (HPX.out).length_le
          have h2 := linesF_len a1.size a1
          have h3 : (Rng.linesOf a1).length ≤ a1.size := h2
          rw [List.length_append] at h1
          unfold parseL
          rw [List.length_map]
          omega⟩
        gi_wp2_with (first | (refine ⟨trivial, ?_⟩; gi_at_call 27; refine (CallsIn.inRound l (callsIn_wide.2 (Tryd.strings_TrimSuffix x _ _ hxs))).mono ?_; rintro e w4 ⟨rfl, rfl⟩) | (refine ⟨trivial, ?_⟩; gi_at_call 26; refine (CallsIn.inRound l (callsIn_wide.2 (impl_readFault.calls k (trimB x) q0 q1 q2 q3 true _ (HG.out.below HI.out.bel) HQ.out))).mono ?_; rintro e w5 ⟨rfl, hb5⟩; obtain ⟨W6, hW6⟩ : ∃ W6, w5.alloc (.cells #[.int .i64 q0, .int .i64 q1, .int .i64 q2, .int .i64 q3] 40) = W6 := ⟨_, rfl⟩; have hb56 : Below w5.heap.size w5 W6 := (by rw [← hW6]; exact below_alloc (Below.refl _ _) _); have HB6 := Aside0.mk (below_step hb5 hb56); have HI6 := Aside0.mk (PFI.next (PFI.next HI.out hb5) hb56); have hx6 : W6.heap[w5.heap.size]? = some (.cells #[.int .i64 q0, .int .i64 q1, .int .i64 q2, .int .i64 q3] 40 (0, 0)) := (by rw [← hW6]; exact heap_alloc_new _ _); have c4 : W6.cell? ⟨w.heap.size + 1, 0, none⟩ = some (.slice none 0 0) := (blk_cell HI6.out.h4 0).trans rfl; have f4 := blk_frozen HI6.out.h4 0; have c5 : W6.cell? ⟨w.heap.size + 1 + 1, 0, none⟩ = some (.int .i64 0) := (blk_cell HI6.out.h5 0).trans rfl; have f5 := blk_frozen HI6.out.h5 0; obtain ⟨v6, h6, hrow6⟩ := HI6.out.h6; have c6 : W6.cell? ⟨b6, 0, none⟩ = some v6 := (blk_cell h6 0).trans rfl; have f6 := blk_frozen h6 0; have x0 : W6.cell? ⟨w5.heap.size, 0, none⟩ = some (.int .i64 q0) := (blk_cell hx6 0).trans rfl; have x1 : W6.cell? ⟨w5.heap.size, 1, none⟩ = some (.int .i64 q1) := (blk_cell hx6 1).trans rfl; have x2 : W6.cell? ⟨w5.heap.size, 2, none⟩ = some (.int .i64 q2) := (blk_cell hx6 2).trans rfl; have x3 : W6.cell? ⟨w5.heap.size, 3, none⟩ = some (.int .i64 q3) := (blk_cell hx6 3).trans rfl; clear hb5 hb56) | (obtain ⟨inner, hown, hreps⟩ := hrow6; gi_at_builtin; refine wpListIn_append_own _ rfl _ _ 29 rfl w.heap.size 40 i0 (.agg #[.int .i64 0, .int .i64 0, .int .i64 0, .int .i64 0]) 4 32 Tryd.underlying29 hi hz0 hz1 hz2 rfl (by decide) _ _ _ rfl (hown.alloc _) ⟨W6.heap.size, 0, none⟩ 1 1 [.int .i64 q0, .int .i64 q1, .int .i64 q2, .int .i64 q3] rfl rfl ?k1 ?k2 ?k3 ?k4 ?k5 ?_))
        case k1 =>
          intro j u hj
          rw [Lib.add_plain, World.cell?_alloc_new]
          simpa using hj
        case k2 =>
          intro u hu
          simp at hu
          rcases hu with rfl | rfl | rfl | rfl <;> rfl
        case k3 => unfold maxLen; have := HLEN.out; omega
        case k4 => have := HLEN.out; omega
        case k5 => have := HI6.out.bel.size; simp; omega
        intro v' w7 hown' hgrow _
        obtain ⟨g', cap', rfl⟩ := ownsRow_succ hown'
        have hm7 : ∀ (g : Nat) (cur : Array Value) (t : Nat), t ≠ 40 → W6.heap[g]? = some (.cells cur t (0, 0)) → w7.heap[g]? = some (.cells cur t (0, 0)) := fun g cur t ht e => by
          have e' := blk_alloc e (.cells #[.int .i64 q0, .int .i64 q1, .int .i64 q2, .int .i64 q3] 40)
          rw [hgrow.block g (blk_lt e') ?_]
          · exact e'
          · intro he
            rcases hown.2 with ⟨rfl, _⟩ | ⟨g0, cap, cur0, rfl, _, hg0, _⟩
            · cases he
            · simp [Value.ownBlock] at he
              subst he
              rw [e] at hg0
              injection hg0 with hg0
              injection hg0 with _ hg0
              exact ht hg0
        have h67 := hm7 b6 _ 29 (by decide) h6
        have c67 : w7.cell? ⟨b6, 0, none⟩ = some v6 := (blk_cell h67 0).trans rfl
        have f67 := blk_frozen h67 0
        gi_wp2
        have hsame : ∀ (g : Nat) (cur : Array Value) (t : Nat), t ≠ 40 → g ≠ b6 → W6.heap[g]? = some (.cells cur t (0, 0)) → (w7.setCell ⟨b6, 0, none⟩ (.slice (some ⟨g', 0, none⟩) ((parseL k pre).length + 1) cap')).heap[g]? = some (.cells cur t (0, 0)) := fun g cur t ht hg e => (Below.heap_setCell w7 ⟨b6, 0, none⟩ _ g hg).trans (hm7 g cur t ht e)
        have hpl : parseL k (pre ++ [x]) = parseL k pre ++ [(⟨q0, q1, q2, q3⟩ : S40)] := by unfold parseL; rw [List.map_append, List.map_cons, List.map_nil, HF.out]
        obtain ⟨cs7, e7⟩ := HI.out.h7
        have e76 := blk_below e7 HB6.out
        refine ⟨(((kf_below HB6.out).trans ((KeepsOthers.alloc W6 _).from _)).trans ((KeepsOthers.of_grownBy hgrow ?isc).from _)).trans ((KeepsOthers.setCell _ _ _).from _), ?ck, ?al, ?pf⟩
        case isc =>
          intro j o he ho
          rcases hown.2 with ⟨rfl, _⟩ | ⟨g0, cap, cur0, rfl, _, hg0, _⟩
          · cases he
          · simp [Value.ownBlock] at he
            subst he
            rw [blk_alloc hg0 _] at ho
            cases ho
            rfl
        case ck => exact (hsame (b6 + 1) cs7 9 (by decide) (by omega) e76).trans e7.symm
        case al => rw [List.all_append, HALL.out]; simp [HO.out]
        case pf =>
          rw [hpl]
          have hb7 : Below w.heap.size w w7 := (below_alloc HI6.out.bel _).grown hgrow (by have := HI6.out.bel.size; simp; omega) (fun j he => (hown.lt j he).1)
          refine ⟨hsame _ _ _ (by decide) (by omega) HI6.out.h1, hsame _ _ _ (by decide) (by omega) HI6.out.h4, hsame _ _ _ (by decide) (by omega) HI6.out.h5, ⟨_, heap_setCell_same w7 b6 0 _ 29 _ h67, ?row⟩, ⟨cs7, hsame _ _ _ (by decide) (by omega) e76⟩, hb7.setCell (p := ⟨b6, 0, none⟩) (by show _ ≤ b6; omega) _⟩
          case row =>
            refine RowF.move (W := w7) ⟨inner ++ [.int .i64 q0, .int .i64 q1, .int .i64 q2, .int .i64 q3], by rw [List.length_append]; exact hown', fun W2 b2 ok => Reps.snoc (hreps W2 b2 ok) (k40_mkM W2 b2 ok ⟨q0, q1, q2, q3⟩) rfl⟩ (fun g cur e => ?_)
            rw [Below.heap_setCell w7 ⟨b6, 0, none⟩ _ g ?_]
            · exact e
            · rintro rfl
              rw [h67] at e
              injection e with e
              injection e with _ e
              cases e
    case done =>
      rintro D W hD ⟨hall, hI⟩ hK
      obtain ⟨v6, h6, hrow⟩ := hI.h6
      obtain ⟨A, cp, rfl, hcp, hC⟩ := Kd.R_reads hrow.r
      have c1_0 : W.cell? ⟨w.heap.size, 0, none⟩ = some (.int .i64 a0_0) := (blk_cell hI.h1 0).trans rfl
      have c1_1 : W.cell? ⟨w.heap.size, 1, none⟩ = some (.int .i64 a0_1) := (blk_cell hI.h1 1).trans rfl
      have c1_2 : W.cell? ⟨w.heap.size, 2, none⟩ = some (.int .i64 a0_2) := (blk_cell hI.h1 2).trans rfl
      have c4 : W.cell? ⟨w.heap.size + 1, 0, none⟩ = some (.slice none 0 0) := (blk_cell hI.h4 0).trans rfl
      have f4 := blk_frozen hI.h4 0
      have c5 : W.cell? ⟨w.heap.size + 1 + 1, 0, none⟩ = some (.int .i64 0) := (blk_cell hI.h5 0).trans rfl
      have f5 := blk_frozen hI.h5 0
      have c6 : W.cell? ⟨b6, 0, none⟩ = some (.slice A (parseL k (Rng.linesOf a1)).length cp) := (blk_cell h6 0).trans rfl
      have f6 := blk_frozen h6 0
      have HI := Aside0.mk hI
      have HH6 := Aside0.mk h6
      have HROW := Aside0.mk hrow
      have HALL := Aside0.mk hall
      have HKD := Aside0.mk hK
      have HD := Aside0.mk hD
      have HCC := Aside0.mk hC
      have HCP := Aside0.mk hcp
      clear hI h6 hrow hall hK hD hC hcp
      cases hs : okScript a0_0 a0_1 a0_2 (parseL k (Rng.linesOf a1)) with
      | false =>
        have hgl : goodL k a0_0 a0_1 a0_2 a1 = false := by
          unfold goodL
          rw [hs]; simp
        have he := HE.out
        rw [hgl] at he
        simp only [Bool.false_eq_true, if_false, Prod.mk.injEq] at he
        obtain ⟨rfl, rfl⟩ := he
        gi_wp2_with (first | (refine ⟨trivial, ?_⟩; gi_at_call 18; refine (callsIn_wide.2 (impl_scriptOk.calls a0_0 a0_1 a0_2 A cp _ false W HCC.out HCP.out (by rw [okScript_f, hs]))).mono ?_; rintro e w8 ⟨rfl, hb8⟩; have c48 : w8.cell? ⟨w.heap.size + 1, 0, none⟩ = some (.slice none 0 0) := (blk_cell (blk_below HI.out.h4 hb8) 0).trans rfl; have f48 := blk_frozen (blk_below HI.out.h4 hb8) 0; have c58 : w8.cell? ⟨w.heap.size + 1 + 1, 0, none⟩ = some (.int .i64 0) := (blk_cell (blk_below HI.out.h5 hb8) 0).trans rfl; have f58 := blk_frozen (blk_below HI.out.h5 hb8) 0) | (refine ⟨trivial, ?_⟩))
        have hK8 := blk_below HKD.out hb8
        have hB8 := below_step HI.out.bel hb8
        have h48 := blk_below HI.out.h4 hb8
        have h58 := blk_below HI.out.h5 hb8
        have hK9 := (KeepsOthers.setCell w8 ⟨w.heap.size + 1, 0, none⟩ (.slice none 0 0)).same D _ hK8 rfl
        have hKa := (KeepsOthers.setCell _ ⟨w.heap.size + 1 + 1, 0, none⟩ (.int .i64 10)).same D _ hK9 rfl
        have e4 := pf_e4 (a := w.heap.size + 1) (v := .slice none 0 0) (u := .int .i64 10) h48
        have e5 := pf_e5 (a := w.heap.size + 1) (v := .slice none 0 0) (u := .int .i64 10) h58
        refine ⟨by simp, .inl ⟨_, _, rfl, run_takeDeferred hKa, ?_⟩⟩
        have d4 := cell_kept ((blk_cell e4 0).trans rfl) (grownBy_putObj' _ D (.deferred none)) (fun r e => by cases e; exact ⟨_, hKa, rfl⟩)
        have d5 := cell_kept ((blk_cell e5 0).trans rfl) (grownBy_putObj' _ D (.deferred none)) (fun r e => by cases e; exact ⟨_, hKa, rfl⟩)
        refine ⟨.tuple #[.slice none 0 0, .int .i64 10], ?_, ⟨_, rfl, Kd.R_nil _ _ _ _ _, ((hB8.setCell (p := ⟨w.heap.size + 1, 0, none⟩) (by show _ ≤ w.heap.size + 1; omega) _).setCell (p := ⟨w.heap.size + 1 + 1, 0, none⟩) (by show _ ≤ w.heap.size + 1 + 1; omega) _).trans (belowK_b (w := w) (Nat.le_refl _) _ D _ _ (Nat.le_trans hP.bel.size HD.out) hKa rfl rfl)⟩⟩
        simp [results, Tryd.f12, go_sem, d4, d5]
      | true =>
        obtain ⟨hgeo', hl40, hfs⟩ := okScript_true hs
        have hokF : ∀ x ∈ parseL k (Rng.linesOf a1), okF x := fun x hx => fault_okF hgeo' (hfs x hx)
        have hlen := textL_len _ hokF
        have HG8 : ∀ w8, Below W.heap.size W w8 → Bld.G0 w8 := fun w8 hb => (HG.out.below HI.out.bel).below hb
        gi_wp2_with (first | (refine ⟨trivial, ?_⟩; gi_at_call 18; refine (callsIn_wide.2 (impl_scriptOk.calls a0_0 a0_1 a0_2 A cp _ true W HCC.out HCP.out (by rw [okScript_f, hs]))).mono ?_; rintro e w8 ⟨rfl, hb8⟩; have hrow8 := RowF.move HROW.out (fun g cur e => blk_below e hb8); have c68 : w8.cell? ⟨b6, 0, none⟩ = some (.slice A (parseL k (Rng.linesOf a1)).length cp) := (blk_cell (blk_below HH6.out hb8) 0).trans rfl; have f68 := blk_frozen (blk_below HH6.out hb8) 0) | (refine ⟨trivial, ?_⟩; gi_at_call 19; refine (callsIn_wide.2 (impl_faultsText.calls A cp _ w8 (Kd.R_reads' hrow8.r).2.2 HCP.out (HG8 _ hb8).tab hokF (by omega) (by omega))).mono ?_; rintro e w9 ⟨rfl, hb9⟩; have hB9 := below_step hb8 hb9; have h49 := blk_below HI.out.h4 hB9; have h59 := blk_below HI.out.h5 hB9; have h69 := blk_below HH6.out hB9; have c49 : w9.cell? ⟨w.heap.size + 1, 0, none⟩ = some (.slice none 0 0) := (blk_cell h49 0).trans rfl; have f49 := blk_frozen h49 0; have c59 : w9.cell? ⟨w.heap.size + 1 + 1, 0, none⟩ = some (.int .i64 0) := (blk_cell h59 0).trans rfl; have f59 := blk_frozen h59 0; have c69 : w9.cell? ⟨b6, 0, none⟩ = some (.slice A (parseL k (Rng.linesOf a1)).length cp) := (blk_cell h69 0).trans rfl; have f69 := blk_frozen h69 0) | (refine ⟨trivial, ?_⟩))
        · rename_i hq
          have hgl : goodL k a0_0 a0_1 a0_2 a1 = false := by
            unfold goodL
            have : ¬ textL (parseL k (Rng.linesOf a1)) = a1.data.toList := by simpa [Lib.toList_data] using hq
            rw [decide_eq_false this]; simp
          have he := HE.out
          rw [hgl] at he
          simp only [Bool.false_eq_true, if_false, Prod.mk.injEq] at he
          obtain ⟨rfl, rfl⟩ := he
          have hK8 := blk_below (blk_below HKD.out hb8) hb9
          have hB8 := below_step HI.out.bel hB9
          have hK9 := (KeepsOthers.setCell w9 ⟨w.heap.size + 1, 0, none⟩ (.slice none 0 0)).same D _ hK8 rfl
          have hKa := (KeepsOthers.setCell _ ⟨w.heap.size + 1 + 1, 0, none⟩ (.int .i64 10)).same D _ hK9 rfl
          have e4 := pf_e4 (a := w.heap.size + 1) (v := (.slice none 0 0)) (u := .int .i64 10) h49
          have e5 := pf_e5 (a := w.heap.size + 1) (v := (.slice none 0 0)) (u := .int .i64 10) h59
          refine ⟨by simp, .inl ⟨_, _, rfl, run_takeDeferred hKa, ?_⟩⟩
          have d4 := cell_kept ((blk_cell e4 0).trans rfl) (grownBy_putObj' _ D (.deferred none)) (fun r e => by cases e; exact ⟨_, hKa, rfl⟩)
          have d5 := cell_kept ((blk_cell e5 0).trans rfl) (grownBy_putObj' _ D (.deferred none)) (fun r e => by cases e; exact ⟨_, hKa, rfl⟩)
          refine ⟨.tuple #[(.slice none 0 0), .int .i64 10], ?_, ⟨_, rfl, Kd.R_nil _ _ _ _ _, ((hB8.setCell (p := ⟨w.heap.size + 1, 0, none⟩) (by show _ ≤ w.heap.size + 1; omega) _).setCell (p := ⟨w.heap.size + 1 + 1, 0, none⟩) (by show _ ≤ w.heap.size + 1 + 1; omega) _).trans (belowK_b (w := w) (Nat.le_refl _) _ D _ _ (Nat.le_trans hP.bel.size HD.out) hKa rfl rfl)⟩⟩
          simp [results, Tryd.f12, go_sem, d4, d5]
        · rename_i hq
          have hgl : goodL k a0_0 a0_1 a0_2 a1 = true := by
            unfold goodL
            rw [HALL.out, hs]
            simpa [Lib.toList_data] using hq
          have he := HE.out
          rw [hgl] at he
          simp only [if_true, Prod.mk.injEq] at he
          obtain ⟨rfl, rfl⟩ := he
          have hrow9 := RowF.move hrow8 (fun g cur e => blk_below e hb9)
          have hK8 := blk_below (blk_below HKD.out hb8) hb9
          have hB8 := below_step HI.out.bel hB9
          have hK9 := (KeepsOthers.setCell w9 ⟨w.heap.size + 1, 0, none⟩ (.slice A (parseL k (Rng.linesOf a1)).length cp)).same D _ hK8 rfl
          have hKa := (KeepsOthers.setCell _ ⟨w.heap.size + 1 + 1, 0, none⟩ (.int .i64 0)).same D _ hK9 rfl
          have e4 := pf_e4 (a := w.heap.size + 1) (v := (.slice A (parseL k (Rng.linesOf a1)).length cp)) (u := .int .i64 0) h49
          have e5 := pf_e5 (a := w.heap.size + 1) (v := (.slice A (parseL k (Rng.linesOf a1)).length cp)) (u := .int .i64 0) h59
          refine ⟨by simp, .inl ⟨_, _, rfl, run_takeDeferred hKa, ?_⟩⟩
          have d4 := cell_kept ((blk_cell e4 0).trans rfl) (grownBy_putObj' _ D (.deferred none)) (fun r e => by cases e; exact ⟨_, hKa, rfl⟩)
          have d5 := cell_kept ((blk_cell e5 0).trans rfl) (grownBy_putObj' _ D (.deferred none)) (fun r e => by cases e; exact ⟨_, hKa, rfl⟩)
          refine ⟨.tuple #[(.slice A (parseL k (Rng.linesOf a1)).length cp), .int .i64 0], ?_, ⟨_, rfl, RowF.r ((hrow9.move (pf_row29 h49)).move (pf_row2 ((Below.heap_setCell w9 ⟨w.heap.size + 1, 0, none⟩ _ _ (by show w.heap.size + 1 + 1 ≠ w.heap.size + 1; omega)).trans h59)) |>.move (fun g cur e => (grownBy_keeps_cells (grownBy_putObj' _ D (.deferred none)) (fun r e => by cases e; exact ⟨_, hKa, rfl⟩) e rfl).trans e)), ((hB8.setCell (p := ⟨w.heap.size + 1, 0, none⟩) (by show _ ≤ w.heap.size + 1; omega) _).setCell (p := ⟨w.heap.size + 1 + 1, 0, none⟩) (by show _ ≤ w.heap.size + 1 + 1; omega) _).trans (belowK_b (w := w) (Nat.le_refl _) _ D _ _ (Nat.le_trans hP.bel.size HD.out) hKa rfl rfl)⟩⟩
          simp [results, Tryd.f12, go_sem, d4, d5]
    case stop =>
      rintro D c pre W hD ⟨⟨rfl, hpre, hno, h4, h5⟩, hB⟩ hK
      have HE' := Aside0.mk (HE.out)
      have hgl : goodL k a0_0 a0_1 a0_2 a1 = false := by
        unfold goodL
        cases hq : (Rng.linesOf a1).all (okLine k) with
        | false => rfl
        | true =>
          exfalso
          rw [List.all_eq_true] at hq
          rw [List.all_eq_true.2 (fun y hy => hq y (hpre.subset hy))] at hno
          cases hno
      have he := HE.out
      rw [hgl] at he
      simp only [Bool.false_eq_true, if_false, Prod.mk.injEq] at he
      obtain ⟨rfl, rfl⟩ := he
      have c4 : W.cell? ⟨w.heap.size + 1, 0, none⟩ = some (.slice none 0 0) := (blk_cell h4 0).trans rfl
      have c5 : W.cell? ⟨w.heap.size + 1 + 1, 0, none⟩ = some (.int .i64 10) := (blk_cell h5 0).trans rfl
      gi_wp2
      refine ⟨by simp, .inl ⟨_, _, rfl, run_takeDeferred hK, ?_⟩⟩
      have d4 := cell_kept c4 (grownBy_putObj' _ D (.deferred none)) (fun r e => by cases e; exact ⟨_, hK, rfl⟩)
      have d5 := cell_kept c5 (grownBy_putObj' _ D (.deferred none)) (fun r e => by cases e; exact ⟨_, hK, rfl⟩)
      refine ⟨.tuple #[.slice none 0 0, .int .i64 10], ?_, ⟨_, rfl, Kd.R_nil _ _ _ _ _, hB.trans (belowK_b (w := w) (Nat.le_refl _) W D _ _ (Nat.le_trans hP.bel.size hD) hK rfl rfl)⟩⟩
      simp [results, Tryd.f12, go_sem, d4, d5]
end

/-! ### laws_markFaultS: function 13 -/
def laws_markFaultS.l0 : Nat → List (S40) → Int → Int → Option (Int × (List (S40)))
  | 0, _, _, _ => none
  | k + 1, x0, x1, x5 => if x5 < (x0.length : Int) then (if 0 ≤ x5 then ((some (x0.set (x5 : Int).toNat (⟨x1, (rd_T40 x0 x5).f1, (rd_T40 x0 x5).f2, (rd_T40 x0 x5).f3⟩ : S40) : List (S40))).bind fun y284 => ((some (y284.set (x5 : Int).toNat (⟨(rd_T40 y284 x5).f0, wrap64 (x1 + 1), (rd_T40 y284 x5).f2, (rd_T40 y284 x5).f3⟩ : S40) : List (S40))).bind fun y285 => ((some (y285.set (x5 : Int).toNat (⟨(rd_T40 y285 x5).f0, (rd_T40 y285 x5).f1, wrap64 ((wrap64 (x1 + 1)) + 1), (rd_T40 y285 x5).f3⟩ : S40) : List (S40))).bind fun y286 => (laws_markFaultS.l0 k (y286.set (x5 : Int).toNat (⟨(rd_T40 y286 x5).f0, (rd_T40 y286 x5).f1, (rd_T40 y286 x5).f2, wrap64 ((wrap64 ((wrap64 (x1 + 1)) + 1)) + 1)⟩ : S40)) (wrap64 ((wrap64 ((wrap64 ((wrap64 (x1 + 1)) + 1)) + 1)) + 1)) (wrap64 (x5 + 1)))))) else (none)) else (some (x1, x0))
def laws_markFaultS.f (k : Nat) (l0 : List (S40)) (a1 : Int) : Option (Int × (List (S40))) := laws_markFaultS.l0 k l0 a1 0
theorem laws_markFaultS.mono_l : ∀ k, (∀ y0 y1 y2, LeO (laws_markFaultS.l0 k y0 y1 y2) (laws_markFaultS.l0 (k + 1) y0 y1 y2))
  | 0 => fun _ _ _ r h => by simp [laws_markFaultS.l0] at h
  | k + 1 => by
    have ih0 := laws_markFaultS.mono_l k
    · intro y0 y1 y2
      unfold laws_markFaultS.l0
      repeat' first
      | (with_reducible exact ih0 _ _ _)
      | (with_reducible exact LeO.refl _)
      | (with_reducible exact LeO.none _)
      | (with_reducible refine LeO.ite ?_ ?_)
      | (with_reducible refine LeO.bind ?_ (fun _ => ?_))
      | exact ih0 _ _ _
      | exact LeO.none _
      | refine LeO.ite ?_ ?_
      | refine LeO.bind ?_ (fun _ => ?_)
theorem laws_markFaultS.mono : ∀ a0 a1 k, LeO (laws_markFaultS.f k a0 a1) (laws_markFaultS.f (k + 1) a0 a1) := by
  intro a0 a1 k
  have ih0 := laws_markFaultS.mono_l k
  unfold laws_markFaultS.f
  repeat' first
      | (with_reducible exact ih0 _ _ _)
      | (with_reducible exact LeO.refl _)
      | (with_reducible exact LeO.none _)
      | (with_reducible refine LeO.ite ?_ ?_)
      | (with_reducible refine LeO.bind ?_ (fun _ => ?_))
      | exact ih0 _ _ _
      | exact LeO.none _
      | refine LeO.ite ?_ ?_
      | refine LeO.bind ?_ (fun _ => ?_)
set_option maxHeartbeats 8000000 in
set_option maxRecDepth 100000 in
theorem laws_markFaultS.calls (k : Nat) (P0_ : Nat → Prop) (u9000_ : Value) (l0 : List (S40)) (a1 : Int) (r1 : Int) (r2 : List (S40)) (w0 w : World) (hB : Below w0.heap.size w0 w) (ho0 : Kd.R k40 40 w w0.heap.size P0_ u9000_ l0) (h : laws_markFaultS.f k l0 a1 = some (r1, r2)) :
    Calls Tryd.prog 13 #[u9000_, .int .i64 a1] w fun e w' => e = .returned (.int .i64 r1) ∧ Kd.R k40 40 w' w0.heap.size (fun k_ => (P0_ k_ ∨ w.heap.size ≤ k_)) u9000_ r2 ∧ Below w0.heap.size w0 w' ∧ Kept w w' (fun k_ => P0_ k_) := by
  have HO0 := Aside0.mk (show Kd.R k40 40 w w0.heap.size (fun k_ => (P0_ k_ ∨ w.heap.size ≤ k_)) u9000_ l0 from Kd.R_mono ho0 (fun k_ hk => (.inl hk)))
  have HK := Aside0.mk (Kept.refl w (fun k_ => P0_ k_))
  have HW0 := Aside0.mk hB.size
  have HB := Aside0.mk hB
  clear hB
  have H : (laws_markFaultS.l0 k l0 a1 0) = some (r1, r2) := h
  clear h
  have H' := Aside0.mk H
  clear H
  go_enter Tryd.func13, Tryd.ntmps13
  go_wp2
  go_loopg [1, 5] k (fun kq v1 v5 w' => ∃ (x0_1 : List (S40)) (x1_1 : Int) (x5_1 : Int), v1 = .int .i64 x1_1 ∧ v5 = .int .i64 x5_1 ∧ Aside0 (laws_markFaultS.l0 kq x0_1 x1_1 x5_1 = some (r1, r2)) ∧ Aside0 (kq ≤ k) ∧ Aside0 (Kd.R k40 40 w' w0.heap.size (fun k_ => (P0_ k_ ∨ w.heap.size ≤ k_)) u9000_ x0_1) ∧ Aside0 (Kept w w' (fun k_ => P0_ k_)) ∧ Aside0 (Below w0.heap.size w0 w'))
  case atStart => exact ⟨(l0), (a1), (0), (by first | rfl | (simp; done) | (simp [*]; done)), (by first | rfl | (simp; done) | (simp [*]; done)), H', ⟨Nat.le_refl _⟩, ⟨by (with_reducible repeat (first | apply Kd.R_alloc | apply Kd.R_drewN | apply Kd.R_drew)); exact HO0.out⟩, ⟨by repeat (first | (with_reducible first | exact HK.out | apply Kept.alloc | apply Kept.drewN | apply Kept.drew) | exact HK.out)⟩, ⟨by repeat (first | (with_reducible first | exact HB.out | apply below_alloc | apply pw_below_drewN | apply below_drew1) | exact HB.out)⟩⟩
  case round =>
    clear H'
    try clear c1
    try clear p2
    obtain ⟨x0_1, x1_1, x5_1, rfl, rfl, HA, HK1, HO_0, HK, HB⟩ := hrel
    cases gk with
    | zero => exact absurd HA.out (by simp [laws_markFaultS.l0])
    | succ k1 =>
      have H := HA.out
      clear HA
      simp only [laws_markFaultS.l0] at H
      by_cases c3 : x5_1 < (x0_1.length : Int)
      · rw [if_pos c3] at H
        have c3b0 : decide (x5_1 < (x0_1.length : Int)) = true := decide_eq_true c3
        clear c3
        by_cases c4 : 0 ≤ x5_1
        · rw [if_pos c4] at H
          have c4b0 : decide (0 ≤ x5_1) = true := decide_eq_true c4
          clear c4
          obtain ⟨y284, hy284⟩ : ∃ y_ : List (S40), y_ = (x0_1.set (x5_1 : Int).toNat (⟨x1_1, (rd_T40 x0_1 x5_1).f1, (rd_T40 x0_1 x5_1).f2, (rd_T40 x0_1 x5_1).f3⟩ : S40)) := ⟨_, rfl⟩
          replace H : ((some (y284.set (x5_1 : Int).toNat (⟨(rd_T40 y284 x5_1).f0, wrap64 (x1_1 + 1), (rd_T40 y284 x5_1).f2, (rd_T40 y284 x5_1).f3⟩ : S40) : List (S40))).bind fun y285 => ((some (y285.set (x5_1 : Int).toNat (⟨(rd_T40 y285 x5_1).f0, (rd_T40 y285 x5_1).f1, wrap64 ((wrap64 (x1_1 + 1)) + 1), (rd_T40 y285 x5_1).f3⟩ : S40) : List (S40))).bind fun y286 => (laws_markFaultS.l0 k1 (y286.set (x5_1 : Int).toNat (⟨(rd_T40 y286 x5_1).f0, (rd_T40 y286 x5_1).f1, (rd_T40 y286 x5_1).f2, wrap64 ((wrap64 ((wrap64 (x1_1 + 1)) + 1)) + 1)⟩ : S40)) (wrap64 ((wrap64 ((wrap64 ((wrap64 (x1_1 + 1)) + 1)) + 1)) + 1)) (wrap64 (x5_1 + 1))))) = some (r1, r2) := by first | (rw [hy284]; with_reducible exact H) | (have H2_ := (Option.bind_some _ _).symm.trans H; rw [hy284]; with_reducible exact H2_) | (have H2_ := (Option.bind_some _ _).symm.trans H; with_reducible exact H2_) | with_reducible exact H | (rw [hy284]; exact H) | exact H
          have Ny284 := Aside0.mk hy284
          clear hy284
          obtain ⟨y285, hy285⟩ : ∃ y_ : List (S40), y_ = (y284.set (x5_1 : Int).toNat (⟨(rd_T40 y284 x5_1).f0, wrap64 (x1_1 + 1), (rd_T40 y284 x5_1).f2, (rd_T40 y284 x5_1).f3⟩ : S40)) := ⟨_, rfl⟩
          replace H : ((some (y285.set (x5_1 : Int).toNat (⟨(rd_T40 y285 x5_1).f0, (rd_T40 y285 x5_1).f1, wrap64 ((wrap64 (x1_1 + 1)) + 1), (rd_T40 y285 x5_1).f3⟩ : S40) : List (S40))).bind fun y286 => (laws_markFaultS.l0 k1 (y286.set (x5_1 : Int).toNat (⟨(rd_T40 y286 x5_1).f0, (rd_T40 y286 x5_1).f1, (rd_T40 y286 x5_1).f2, wrap64 ((wrap64 ((wrap64 (x1_1 + 1)) + 1)) + 1)⟩ : S40)) (wrap64 ((wrap64 ((wrap64 ((wrap64 (x1_1 + 1)) + 1)) + 1)) + 1)) (wrap64 (x5_1 + 1)))) = some (r1, r2) := by first | (rw [hy285]; with_reducible exact H) | (have H2_ := (Option.bind_some _ _).symm.trans H; rw [hy285]; with_reducible exact H2_) | (have H2_ := (Option.bind_some _ _).symm.trans H; with_reducible exact H2_) | with_reducible exact H | (rw [hy285]; exact H) | exact H
          have Ny285 := Aside0.mk hy285
          clear hy285
          obtain ⟨y286, hy286⟩ : ∃ y_ : List (S40), y_ = (y285.set (x5_1 : Int).toNat (⟨(rd_T40 y285 x5_1).f0, (rd_T40 y285 x5_1).f1, wrap64 ((wrap64 (x1_1 + 1)) + 1), (rd_T40 y285 x5_1).f3⟩ : S40)) := ⟨_, rfl⟩
          replace H : (laws_markFaultS.l0 k1 (y286.set (x5_1 : Int).toNat (⟨(rd_T40 y286 x5_1).f0, (rd_T40 y286 x5_1).f1, (rd_T40 y286 x5_1).f2, wrap64 ((wrap64 ((wrap64 (x1_1 + 1)) + 1)) + 1)⟩ : S40)) (wrap64 ((wrap64 ((wrap64 ((wrap64 (x1_1 + 1)) + 1)) + 1)) + 1)) (wrap64 (x5_1 + 1))) = some (r1, r2) := by first | (rw [hy286]; with_reducible exact H) | (have H2_ := (Option.bind_some _ _).symm.trans H; rw [hy286]; with_reducible exact H2_) | (have H2_ := (Option.bind_some _ _).symm.trans H; with_reducible exact H2_) | with_reducible exact H | (rw [hy286]; exact H) | exact H
          have Ny286 := Aside0.mk hy286
          clear hy286
          obtain ⟨y287, hy287⟩ : ∃ y_ : List (S40), y_ = (y286.set (x5_1 : Int).toNat (⟨(rd_T40 y286 x5_1).f0, (rd_T40 y286 x5_1).f1, (rd_T40 y286 x5_1).f2, wrap64 ((wrap64 ((wrap64 (x1_1 + 1)) + 1)) + 1)⟩ : S40)) := ⟨_, rfl⟩
          replace H : (laws_markFaultS.l0 k1 y287 (wrap64 ((wrap64 ((wrap64 ((wrap64 (x1_1 + 1)) + 1)) + 1)) + 1)) (wrap64 (x5_1 + 1))) = some (r1, r2) := by first | (rw [hy287]; with_reducible exact H) | (have H2_ := (Option.bind_some _ _).symm.trans H; rw [hy287]; with_reducible exact H2_) | (have H2_ := (Option.bind_some _ _).symm.trans H; with_reducible exact H2_) | with_reducible exact H | (rw [hy287]; exact H) | exact H
          have Ny287 := Aside0.mk hy287
          clear hy287
          have H' := Aside0.mk H
          clear H
          obtain ⟨Ao9, co9, eo9⟩ := Kd.R_slice HO_0.out
          subst eo9
          have p5 : 0 ≤ (x5_1 : Int) := of_decide_eq_true (by first | (with_reducible assumption) | assumption)
          have q5 : (x5_1 : Int) < ((x0_1.length : Int) : Int) := of_decide_eq_true (by first | (with_reducible assumption) | assumption)
          obtain ⟨go5, co5, eo5, gb5, gl5, cl5, HG5⟩ := Kd.R_form HO_0.out (by omega)
          (first | cases eo5 | (injection eo5 with ea_ en_ ec_; (first | subst ea_ | (injection ea_ with ea_; subst ea_)); subst ec_; clear en_))
          have GB5 := Aside0.mk gb5
          have GG5 := Aside0.mk HG5
          clear gb5 gl5 HG5
          have HMgo5 := Aside0.mk (show (P0_ go5 ∨ w.heap.size ≤ go5) from (HO_0.out.1 _ rfl))
          obtain ⟨ce5, hcl5, hM5, hcc5, hfr5⟩ := Kd.R_elem HO_0.out z40 (x5_1 : Int) p5 q5
          obtain rfl := k40_openM hM5
          have hx5_0 : wr.cell? ⟨go5, (x5_1 : Int).toNat * 4, none⟩ = some (.int .i64 ((rd_T40 x0_1 x5_1).f0)) := hcc5 0 _ rfl
          have hx5_1 : wr.cell? ⟨go5, (x5_1 : Int).toNat * 4 + 1, none⟩ = some (.int .i64 ((rd_T40 x0_1 x5_1).f1)) := hcc5 1 _ rfl
          have hx5_2 : wr.cell? ⟨go5, (x5_1 : Int).toNat * 4 + 2, none⟩ = some (.int .i64 ((rd_T40 x0_1 x5_1).f2)) := hcc5 2 _ rfl
          have hx5_3 : wr.cell? ⟨go5, (x5_1 : Int).toNat * 4 + 3, none⟩ = some (.int .i64 ((rd_T40 x0_1 x5_1).f3)) := hcc5 3 _ rfl
          have hf5_0 : wr.frozen? ⟨go5, (x5_1 : Int).toNat * 4, none⟩ = false := hfr5 0
          have hf5_1 : wr.frozen? ⟨go5, (x5_1 : Int).toNat * 4 + 1, none⟩ = false := hfr5 1
          have hf5_2 : wr.frozen? ⟨go5, (x5_1 : Int).toNat * 4 + 2, none⟩ = false := hfr5 2
          have hf5_3 : wr.frozen? ⟨go5, (x5_1 : Int).toNat * 4 + 3, none⟩ = false := hfr5 3
          clear hcl5 hcc5 hfr5 hM5
          replace p5 := eq_true p5
          replace q5 := eq_true q5
          have HX10 := Aside0.mk (show Kd.R k40 40 wr w0.heap.size (fun k_ => (P0_ k_ ∨ w.heap.size ≤ k_)) (.slice (some ⟨go5, 0, none⟩) x0_1.length co9) x0_1 from (by (with_reducible repeat (first | apply Kd.R_alloc | apply Kd.R_drewN | apply Kd.R_drew)); exact HO_0.out))
          obtain ⟨ce10, hcl10, hM10, hcc10, hfr10⟩ := Kd.R_elem HX10.out z40 (x5_1 : Int) (of_decide_eq_true (by first | (with_reducible assumption) | assumption)) (by have h_ : (x5_1 : Int) < ((x0_1.length : Int) : Int) := of_decide_eq_true (by first | (with_reducible assumption) | assumption); first | exact h_ | (have e_ := (Kd.R_reads' HO_0.out).1; omega) | simpa using h_)
          obtain rfl := k40_openM hM10
          have HP10 := Kd.R_seg HX10.out (x5_1 : Int) (of_decide_eq_true (by first | (with_reducible assumption) | assumption)) (by have h_ : (x5_1 : Int) < ((x0_1.length : Int) : Int) := of_decide_eq_true (by first | (with_reducible assumption) | assumption); first | exact h_ | (have e_ := (Kd.R_reads' HO_0.out).1; omega) | simpa using h_) (seg := [.int .i64 x1_1]) (j := 0) hcl10 hcc10 (show 1 ≤ 4 from by decide) (x' := (⟨x1_1, (rd_T40 x0_1 x5_1).f1, (rd_T40 x0_1 x5_1).f2, (rd_T40 x0_1 x5_1).f3⟩ : S40)) (k40_mkM _ _ _ (⟨x1_1, (rd_T40 x0_1 x5_1).f1, (rd_T40 x0_1 x5_1).f2, (rd_T40 x0_1 x5_1).f3⟩ : S40) ) (fun _ hk => hk)
          have hx10_0 := hcc10 0 _ rfl
          (try simp only [show (k40).sz = 4 from rfl, Nat.mul_one, Nat.add_zero] at hx10_0)
          have hf10_0 := hfr10 0
          (try simp only [show (k40).sz = 4 from rfl, Nat.mul_one, Nat.add_zero] at hf10_0)
          clear hcl10 hcc10 hfr10 hM10
          go_wp2_with (first | ((with_reducible refine gate_store (t := 2) (p := 16) rfl ?_); refine store_event (t := 2) (p := 16) (v := ?vo_w11) (w1 := (wr.setCell ⟨go5, (x5_1 : Int).toNat * 4, none⟩ (.int .i64 x1_1))) ?hg ?ho ?hn ?hr ?_; (case ho => rfl); (case hg => rfl); (case hn => rfl); (case hr => first | (go_simp; done) | (go_simp; rfl)); intro w11 hw; have hg : wr.grownBy w11 (some go5) := (by rw [hw]; exact HP10.2); have hp_ : Kd.R k40 40 w11 w0.heap.size (fun k_ => (P0_ k_ ∨ w.heap.size ≤ k_)) (.slice (some ⟨go5, 0, none⟩) x0_1.length co9) y284 := (by rw [hw, Ny284.out]; exact HP10.1); clear HP10; have n0_ := Aside0.mk (hp_); have n1_ := Aside0.mk ((by rw [hw]; exact below_set (HB.out) GB5.out : Below w0.heap.size w0 w11)); have n2_ := Aside0.mk (Kept.of_grown (S := (fun k_ => P0_ k_)) hg (by repeat (first | (with_reducible first | exact HK.out | apply Kept.alloc | apply Kept.drewN | apply Kept.drew) | exact HK.out)) (fun k_ e_ => (HO_0.out.1 k_ e_))); clear HO_0; clear HB; clear HK; have HO_0 := n0_; have HB := n1_; have HK := n2_; clear n0_ n1_ n2_; clear hg hw hp_; have p6 : 0 ≤ (x5_1 : Int) := of_decide_eq_true (by first | (with_reducible assumption) | assumption); have q6 : (x5_1 : Int) < ((x0_1.length : Int) : Int) := of_decide_eq_true (by first | (with_reducible assumption) | assumption); obtain ⟨ce6, hcl6, hM6, hcc6, hfr6⟩ := Kd.R_elem HO_0.out z40 (x5_1 : Int) p6 q6; obtain rfl := k40_openM hM6; have hx6_0 : w11.cell? ⟨go5, (x5_1 : Int).toNat * 4, none⟩ = some (.int .i64 ((rd_T40 y284 x5_1).f0)) := hcc6 0 _ rfl; have hx6_1 : w11.cell? ⟨go5, (x5_1 : Int).toNat * 4 + 1, none⟩ = some (.int .i64 ((rd_T40 y284 x5_1).f1)) := hcc6 1 _ rfl; have hx6_2 : w11.cell? ⟨go5, (x5_1 : Int).toNat * 4 + 2, none⟩ = some (.int .i64 ((rd_T40 y284 x5_1).f2)) := hcc6 2 _ rfl; have hx6_3 : w11.cell? ⟨go5, (x5_1 : Int).toNat * 4 + 3, none⟩ = some (.int .i64 ((rd_T40 y284 x5_1).f3)) := hcc6 3 _ rfl; have hf6_0 : w11.frozen? ⟨go5, (x5_1 : Int).toNat * 4, none⟩ = false := hfr6 0; have hf6_1 : w11.frozen? ⟨go5, (x5_1 : Int).toNat * 4 + 1, none⟩ = false := hfr6 1; have hf6_2 : w11.frozen? ⟨go5, (x5_1 : Int).toNat * 4 + 2, none⟩ = false := hfr6 2; have hf6_3 : w11.frozen? ⟨go5, (x5_1 : Int).toNat * 4 + 3, none⟩ = false := hfr6 3; clear hcl6 hcc6 hfr6 hM6; replace p6 := eq_true p6; replace q6 := eq_true q6; have HX12 := Aside0.mk (show Kd.R k40 40 w11 w0.heap.size (fun k_ => (P0_ k_ ∨ w.heap.size ≤ k_)) (.slice (some ⟨go5, 0, none⟩) x0_1.length co9) y284 from (by (with_reducible repeat (first | apply Kd.R_alloc | apply Kd.R_drewN | apply Kd.R_drew)); exact HO_0.out)); obtain ⟨ce12, hcl12, hM12, hcc12, hfr12⟩ := Kd.R_elem HX12.out z40 (x5_1 : Int) (of_decide_eq_true (by first | (with_reducible assumption) | assumption)) (by have h_ : (x5_1 : Int) < ((x0_1.length : Int) : Int) := of_decide_eq_true (by first | (with_reducible assumption) | assumption); first | exact h_ | (have e_ := (Kd.R_reads' HO_0.out).1; omega) | simpa using h_); obtain rfl := k40_openM hM12; have HP12 := Kd.R_seg HX12.out (x5_1 : Int) (of_decide_eq_true (by first | (with_reducible assumption) | assumption)) (by have h_ : (x5_1 : Int) < ((x0_1.length : Int) : Int) := of_decide_eq_true (by first | (with_reducible assumption) | assumption); first | exact h_ | (have e_ := (Kd.R_reads' HO_0.out).1; omega) | simpa using h_) (seg := [.int .i64 (wrap64 (x1_1 + 1))]) (j := 1) hcl12 hcc12 (show 2 ≤ 4 from by decide) (x' := (⟨(rd_T40 y284 x5_1).f0, wrap64 (x1_1 + 1), (rd_T40 y284 x5_1).f2, (rd_T40 y284 x5_1).f3⟩ : S40)) (k40_mkM _ _ _ (⟨(rd_T40 y284 x5_1).f0, wrap64 (x1_1 + 1), (rd_T40 y284 x5_1).f2, (rd_T40 y284 x5_1).f3⟩ : S40) ) (fun _ hk => hk); have hx12_1 := hcc12 1 _ rfl; (try simp only [show (k40).sz = 4 from rfl, Nat.mul_one, Nat.add_zero] at hx12_1); have hf12_1 := hfr12 1; (try simp only [show (k40).sz = 4 from rfl, Nat.mul_one, Nat.add_zero] at hf12_1); clear hcl12 hcc12 hfr12 hM12) | ((with_reducible refine gate_store (t := 2) (p := 23) rfl ?_); refine store_event (t := 2) (p := 23) (v := ?vo_w13) (w1 := (w11.setCell ⟨go5, (x5_1 : Int).toNat * 4 + 1, none⟩ (.int .i64 (wrap64 (x1_1 + 1))))) ?hg ?ho ?hn ?hr ?_; (case ho => rfl); (case hg => rfl); (case hn => rfl); (case hr => first | (go_simp; done) | (go_simp; rfl)); intro w13 hw; have hg : w11.grownBy w13 (some go5) := (by rw [hw]; exact HP12.2); have hp_ : Kd.R k40 40 w13 w0.heap.size (fun k_ => (P0_ k_ ∨ w.heap.size ≤ k_)) (.slice (some ⟨go5, 0, none⟩) x0_1.length co9) y285 := (by rw [hw, Ny285.out]; exact HP12.1); clear HP12; have n0_ := Aside0.mk (hp_); have n1_ := Aside0.mk ((by rw [hw]; exact below_set (HB.out) GB5.out : Below w0.heap.size w0 w13)); have n2_ := Aside0.mk (Kept.of_grown (S := (fun k_ => P0_ k_)) hg (by repeat (first | (with_reducible first | exact HK.out | apply Kept.alloc | apply Kept.drewN | apply Kept.drew) | exact HK.out)) (fun k_ e_ => (HO_0.out.1 k_ e_))); clear HO_0; clear HB; clear HK; have HO_0 := n0_; have HB := n1_; have HK := n2_; clear n0_ n1_ n2_; clear hg hw hp_; have p7 : 0 ≤ (x5_1 : Int) := of_decide_eq_true (by first | (with_reducible assumption) | assumption); have q7 : (x5_1 : Int) < ((x0_1.length : Int) : Int) := of_decide_eq_true (by first | (with_reducible assumption) | assumption); obtain ⟨ce7, hcl7, hM7, hcc7, hfr7⟩ := Kd.R_elem HO_0.out z40 (x5_1 : Int) p7 q7; obtain rfl := k40_openM hM7; have hx7_0 : w13.cell? ⟨go5, (x5_1 : Int).toNat * 4, none⟩ = some (.int .i64 ((rd_T40 y285 x5_1).f0)) := hcc7 0 _ rfl; have hx7_1 : w13.cell? ⟨go5, (x5_1 : Int).toNat * 4 + 1, none⟩ = some (.int .i64 ((rd_T40 y285 x5_1).f1)) := hcc7 1 _ rfl; have hx7_2 : w13.cell? ⟨go5, (x5_1 : Int).toNat * 4 + 2, none⟩ = some (.int .i64 ((rd_T40 y285 x5_1).f2)) := hcc7 2 _ rfl; have hx7_3 : w13.cell? ⟨go5, (x5_1 : Int).toNat * 4 + 3, none⟩ = some (.int .i64 ((rd_T40 y285 x5_1).f3)) := hcc7 3 _ rfl; have hf7_0 : w13.frozen? ⟨go5, (x5_1 : Int).toNat * 4, none⟩ = false := hfr7 0; have hf7_1 : w13.frozen? ⟨go5, (x5_1 : Int).toNat * 4 + 1, none⟩ = false := hfr7 1; have hf7_2 : w13.frozen? ⟨go5, (x5_1 : Int).toNat * 4 + 2, none⟩ = false := hfr7 2; have hf7_3 : w13.frozen? ⟨go5, (x5_1 : Int).toNat * 4 + 3, none⟩ = false := hfr7 3; clear hcl7 hcc7 hfr7 hM7; replace p7 := eq_true p7; replace q7 := eq_true q7; have HX14 := Aside0.mk (show Kd.R k40 40 w13 w0.heap.size (fun k_ => (P0_ k_ ∨ w.heap.size ≤ k_)) (.slice (some ⟨go5, 0, none⟩) x0_1.length co9) y285 from (by (with_reducible repeat (first | apply Kd.R_alloc | apply Kd.R_drewN | apply Kd.R_drew)); exact HO_0.out)); obtain ⟨ce14, hcl14, hM14, hcc14, hfr14⟩ := Kd.R_elem HX14.out z40 (x5_1 : Int) (of_decide_eq_true (by first | (with_reducible assumption) | assumption)) (by have h_ : (x5_1 : Int) < ((x0_1.length : Int) : Int) := of_decide_eq_true (by first | (with_reducible assumption) | assumption); first | exact h_ | (have e_ := (Kd.R_reads' HO_0.out).1; omega) | simpa using h_); obtain rfl := k40_openM hM14; have HP14 := Kd.R_seg HX14.out (x5_1 : Int) (of_decide_eq_true (by first | (with_reducible assumption) | assumption)) (by have h_ : (x5_1 : Int) < ((x0_1.length : Int) : Int) := of_decide_eq_true (by first | (with_reducible assumption) | assumption); first | exact h_ | (have e_ := (Kd.R_reads' HO_0.out).1; omega) | simpa using h_) (seg := [.int .i64 (wrap64 ((wrap64 (x1_1 + 1)) + 1))]) (j := 2) hcl14 hcc14 (show 3 ≤ 4 from by decide) (x' := (⟨(rd_T40 y285 x5_1).f0, (rd_T40 y285 x5_1).f1, wrap64 ((wrap64 (x1_1 + 1)) + 1), (rd_T40 y285 x5_1).f3⟩ : S40)) (k40_mkM _ _ _ (⟨(rd_T40 y285 x5_1).f0, (rd_T40 y285 x5_1).f1, wrap64 ((wrap64 (x1_1 + 1)) + 1), (rd_T40 y285 x5_1).f3⟩ : S40) ) (fun _ hk => hk); have hx14_2 := hcc14 2 _ rfl; (try simp only [show (k40).sz = 4 from rfl, Nat.mul_one, Nat.add_zero] at hx14_2); have hf14_2 := hfr14 2; (try simp only [show (k40).sz = 4 from rfl, Nat.mul_one, Nat.add_zero] at hf14_2); clear hcl14 hcc14 hfr14 hM14) | ((with_reducible refine gate_store (t := 2) (p := 30) rfl ?_); refine store_event (t := 2) (p := 30) (v := ?vo_w15) (w1 := (w13.setCell ⟨go5, (x5_1 : Int).toNat * 4 + 2, none⟩ (.int .i64 (wrap64 ((wrap64 (x1_1 + 1)) + 1))))) ?hg ?ho ?hn ?hr ?_; (case ho => rfl); (case hg => rfl); (case hn => rfl); (case hr => first | (go_simp; done) | (go_simp; rfl)); intro w15 hw; have hg : w13.grownBy w15 (some go5) := (by rw [hw]; exact HP14.2); have hp_ : Kd.R k40 40 w15 w0.heap.size (fun k_ => (P0_ k_ ∨ w.heap.size ≤ k_)) (.slice (some ⟨go5, 0, none⟩) x0_1.length co9) y286 := (by rw [hw, Ny286.out]; exact HP14.1); clear HP14; have n0_ := Aside0.mk (hp_); have n1_ := Aside0.mk ((by rw [hw]; exact below_set (HB.out) GB5.out : Below w0.heap.size w0 w15)); have n2_ := Aside0.mk (Kept.of_grown (S := (fun k_ => P0_ k_)) hg (by repeat (first | (with_reducible first | exact HK.out | apply Kept.alloc | apply Kept.drewN | apply Kept.drew) | exact HK.out)) (fun k_ e_ => (HO_0.out.1 k_ e_))); clear HO_0; clear HB; clear HK; have HO_0 := n0_; have HB := n1_; have HK := n2_; clear n0_ n1_ n2_; clear hg hw hp_; have p8 : 0 ≤ (x5_1 : Int) := of_decide_eq_true (by first | (with_reducible assumption) | assumption); have q8 : (x5_1 : Int) < ((x0_1.length : Int) : Int) := of_decide_eq_true (by first | (with_reducible assumption) | assumption); obtain ⟨ce8, hcl8, hM8, hcc8, hfr8⟩ := Kd.R_elem HO_0.out z40 (x5_1 : Int) p8 q8; obtain rfl := k40_openM hM8; have hx8_0 : w15.cell? ⟨go5, (x5_1 : Int).toNat * 4, none⟩ = some (.int .i64 ((rd_T40 y286 x5_1).f0)) := hcc8 0 _ rfl; have hx8_1 : w15.cell? ⟨go5, (x5_1 : Int).toNat * 4 + 1, none⟩ = some (.int .i64 ((rd_T40 y286 x5_1).f1)) := hcc8 1 _ rfl; have hx8_2 : w15.cell? ⟨go5, (x5_1 : Int).toNat * 4 + 2, none⟩ = some (.int .i64 ((rd_T40 y286 x5_1).f2)) := hcc8 2 _ rfl; have hx8_3 : w15.cell? ⟨go5, (x5_1 : Int).toNat * 4 + 3, none⟩ = some (.int .i64 ((rd_T40 y286 x5_1).f3)) := hcc8 3 _ rfl; have hf8_0 : w15.frozen? ⟨go5, (x5_1 : Int).toNat * 4, none⟩ = false := hfr8 0; have hf8_1 : w15.frozen? ⟨go5, (x5_1 : Int).toNat * 4 + 1, none⟩ = false := hfr8 1; have hf8_2 : w15.frozen? ⟨go5, (x5_1 : Int).toNat * 4 + 2, none⟩ = false := hfr8 2; have hf8_3 : w15.frozen? ⟨go5, (x5_1 : Int).toNat * 4 + 3, none⟩ = false := hfr8 3; clear hcl8 hcc8 hfr8 hM8; replace p8 := eq_true p8; replace q8 := eq_true q8; have HX16 := Aside0.mk (show Kd.R k40 40 w15 w0.heap.size (fun k_ => (P0_ k_ ∨ w.heap.size ≤ k_)) (.slice (some ⟨go5, 0, none⟩) x0_1.length co9) y286 from (by (with_reducible repeat (first | apply Kd.R_alloc | apply Kd.R_drewN | apply Kd.R_drew)); exact HO_0.out)); obtain ⟨ce16, hcl16, hM16, hcc16, hfr16⟩ := Kd.R_elem HX16.out z40 (x5_1 : Int) (of_decide_eq_true (by first | (with_reducible assumption) | assumption)) (by have h_ : (x5_1 : Int) < ((x0_1.length : Int) : Int) := of_decide_eq_true (by first | (with_reducible assumption) | assumption); first | exact h_ | (have e_ := (Kd.R_reads' HO_0.out).1; omega) | simpa using h_); obtain rfl := k40_openM hM16; have HP16 := Kd.R_seg HX16.out (x5_1 : Int) (of_decide_eq_true (by first | (with_reducible assumption) | assumption)) (by have h_ : (x5_1 : Int) < ((x0_1.length : Int) : Int) := of_decide_eq_true (by first | (with_reducible assumption) | assumption); first | exact h_ | (have e_ := (Kd.R_reads' HO_0.out).1; omega) | simpa using h_) (seg := [.int .i64 (wrap64 ((wrap64 ((wrap64 (x1_1 + 1)) + 1)) + 1))]) (j := 3) hcl16 hcc16 (show 4 ≤ 4 from by decide) (x' := (⟨(rd_T40 y286 x5_1).f0, (rd_T40 y286 x5_1).f1, (rd_T40 y286 x5_1).f2, wrap64 ((wrap64 ((wrap64 (x1_1 + 1)) + 1)) + 1)⟩ : S40)) (k40_mkM _ _ _ (⟨(rd_T40 y286 x5_1).f0, (rd_T40 y286 x5_1).f1, (rd_T40 y286 x5_1).f2, wrap64 ((wrap64 ((wrap64 (x1_1 + 1)) + 1)) + 1)⟩ : S40) ) (fun _ hk => hk); have hx16_3 := hcc16 3 _ rfl; (try simp only [show (k40).sz = 4 from rfl, Nat.mul_one, Nat.add_zero] at hx16_3); have hf16_3 := hfr16 3; (try simp only [show (k40).sz = 4 from rfl, Nat.mul_one, Nat.add_zero] at hf16_3); clear hcl16 hcc16 hfr16 hM16) | ((with_reducible refine gate_store (t := 2) (p := 37) rfl ?_); refine store_event (t := 2) (p := 37) (v := ?vo_w17) (w1 := (w15.setCell ⟨go5, (x5_1 : Int).toNat * 4 + 3, none⟩ (.int .i64 (wrap64 ((wrap64 ((wrap64 (x1_1 + 1)) + 1)) + 1))))) ?hg ?ho ?hn ?hr ?_; (case ho => rfl); (case hg => rfl); (case hn => rfl); (case hr => first | (go_simp; done) | (go_simp; rfl)); intro w17 hw; have hg : w15.grownBy w17 (some go5) := (by rw [hw]; exact HP16.2); have hp_ : Kd.R k40 40 w17 w0.heap.size (fun k_ => (P0_ k_ ∨ w.heap.size ≤ k_)) (.slice (some ⟨go5, 0, none⟩) x0_1.length co9) y287 := (by rw [hw, Ny287.out]; exact HP16.1); clear HP16; have n0_ := Aside0.mk (hp_); have n1_ := Aside0.mk ((by rw [hw]; exact below_set (HB.out) GB5.out : Below w0.heap.size w0 w17)); have n2_ := Aside0.mk (Kept.of_grown (S := (fun k_ => P0_ k_)) hg (by repeat (first | (with_reducible first | exact HK.out | apply Kept.alloc | apply Kept.drewN | apply Kept.drew) | exact HK.out)) (fun k_ e_ => (HO_0.out.1 k_ e_))); clear HO_0; clear HB; clear HK; have HO_0 := n0_; have HB := n1_; have HK := n2_; clear n0_ n1_ n2_; clear hg hw hp_))
          go_roundg k1
          case measure => have := HK1.out; omega
          case rel => exact ⟨(y287), (wrap64 ((wrap64 ((wrap64 ((wrap64 (x1_1 + 1)) + 1)) + 1)) + 1)), (wrap64 (x5_1 + 1)), (by first | rfl | (simp; done) | (simp [*]; done)), (by first | rfl | (simp; done) | (simp [*]; done)), H', ⟨by have := HK1.out; omega⟩, ⟨by (with_reducible repeat (first | apply Kd.R_alloc | apply Kd.R_drewN | apply Kd.R_drew)); exact HO_0.out⟩, ⟨by repeat (first | (with_reducible first | exact HK.out | apply Kept.alloc | apply Kept.drewN | apply Kept.drew) | exact HK.out)⟩, ⟨by repeat (first | (with_reducible first | exact HB.out | apply below_alloc | apply pw_below_drewN | apply below_drew1) | exact HB.out)⟩⟩
        · rw [if_neg c4] at H
          exact absurd H (by simp)
      · rw [if_neg c3] at H
        have c3b0 : decide (x5_1 < (x0_1.length : Int)) = false := decide_eq_false c3
        clear c3
        simp only [Option.some.injEq, Prod.mk.injEq] at H
        obtain ⟨rfl, rfl⟩ := H
        obtain ⟨Ao18, co18, eo18⟩ := Kd.R_slice HO_0.out
        subst eo18
        go_wp2
        go_ret
        exact ⟨by first | rfl | (simp [errW_none, errW_some] <;> rfl) | (simp [*, errW_none, errW_some] <;> rfl), by (with_reducible repeat (first | apply Kd.R_alloc | apply Kd.R_drewN | apply Kd.R_drew)); exact HO_0.out, by repeat (first | (with_reducible first | exact HB.out | apply below_alloc | apply pw_below_drewN | apply below_drew1) | exact HB.out), by repeat (first | (with_reducible first | exact HK.out | apply Kept.alloc | apply Kept.drewN | apply Kept.drew) | exact HK.out)⟩

end Go.Proofs.YtchpgjhbmeokaaaDoor.QFnExactParseFaults
