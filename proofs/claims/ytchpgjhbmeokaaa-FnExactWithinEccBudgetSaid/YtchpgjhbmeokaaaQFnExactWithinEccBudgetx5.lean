-- Written by mp.py, a program of this session over the kit's print; the session answers for it, Lean checks it.
import Derived.Test.YtchpgjhbmeokaaaQFnExactWithinEccBudgetx0
import Derived.Test.YtchpgjhbmeokaaaQFnExactWithinEccBudgetx1
import Derived.Test.YtchpgjhbmeokaaaQFnExactWithinEccBudgetx3
import Derived.Test.YtchpgjhbmeokaaaQFnExactWithinEccBudgetx4
namespace Go.Proofs.Ytchpgjhbmeokaaa.QFnExactWithinEccBudget
open Go.RowKit Go.Proofs.Ytchpgjhbmeokaaa.Hand Go.Proofs.YtchpgjhbmeokaaaW.PrintWords Go.Proofs.YtchpgjhbmeokaaaW.PrintLast Go.Proofs.YtchpgjhbmeokaaaW.PrintMore
attribute [local go_sem] max2_int min2_int max_two min_two max_three min_three max_four min_four   -- for this text's walks alone
set_option linter.unusedVariables false
set_option linter.unusedSimpArgs false

/-! ### impl_WithinEccBudget: function 47 (a text of the session's own) -/
theorem arrK : Go.WideMaps.ArrKey Try.prog 108 2 3 := ⟨Try.underlying108, by kernel_rfl, by kernel_rfl, by kernel_rfl⟩
theorem lawK : Go.Maps.Keyed Try.prog 108 := Go.Maps.Keyed.of_law arrK.law
theorem sizeT : ∃ m, Try.prog.types.size = m + 1 := by
  have h : 0 < Try.prog.types.size := of_decide_eq_true (by kernel_rfl)
  exact ⟨Try.prog.types.size - 1, by omega⟩
def wf3 (k : Int × Int × Int) : Prop := (Lit.int .i64 k.1).wf = true ∧ (Lit.int .i64 k.2.1).wf = true ∧ (Lit.int .i64 k.2.2).wf = true
def KV (k : Int × Int × Int) : Value := .agg #[.int .i64 k.1, .int .i64 k.2.1, .int .i64 k.2.2]
def KL (k : Int × Int × Int) : Lit := .string (keyBytes [.int .i64 k.1, .int .i64 k.2.1, .int .i64 k.2.2])
theorem keyOf3 {k : Int × Int × Int} (h : wf3 k) : keyOf Try.prog 108 (KV k) = some (KL k) := by
  obtain ⟨wa, wb, wc⟩ := h
  have hkt := arrK.keyType sizeT
  obtain ⟨m, hm⟩ := sizeT
  have hu := arrK.hu
  have hs := arrK.size
  have ho := arrK.one
  have hi := Try.underlying2
  unfold keyOf KV KL
  simp only [hu]
  rw [if_pos (by simp [hkt, Value.formed, hu, hs]), hm]
  unfold Program.keyLits
  simp only [hu, Value.cells]
  rw [if_pos (by rw [hs]; rfl), show List.range 3 = [0, 1, 2] from rfl, List.mapM_cons, List.mapM_cons, List.mapM_cons, List.mapM_nil]
  simp [ho, Program.keyLits, hi, wa, wb, wc]
theorem KL_inj {k k' : Int × Int × Int} (h : wf3 k) (h' : wf3 k') (e : KL k = KL k') : k = k' := by
  have h2 := lawK.inj (keyOf3 h) (by rw [e]; exact keyOf3 h')
  unfold KV at h2
  obtain ⟨a, b, c⟩ := k
  obtain ⟨a', b', c'⟩ := k'
  simp at h2
  obtain ⟨rfl, rfl, rfl⟩ := h2
  rfl
def wordB (bit : Int) : Int := (impl_wordOf.f bit).getD 0
theorem wordB_ok {bit : Int} (h0 : 0 ≤ bit) (h1 : bit ≤ 727) : impl_wordOf.f bit = some (wordB bit) ∧ 0 ≤ wordB bit ∧ wordB bit ≤ 10 := by
  have hd : Int.tdiv bit 8 = bit / 8 := Int.tdiv_eq_ediv_of_nonneg h0
  have hw : wrap64 (bit / 8) = bit / 8 := by unfold wrap64; omega
  have hd2 : Int.tdiv (bit / 8) 8 = bit / 8 / 8 := Int.tdiv_eq_ediv_of_nonneg (by omega)
  have hw2 : wrap64 (bit / 8 / 8) = bit / 8 / 8 := by unfold wrap64; omega
  have hw3 : wrap64 (bit / 8 - 80) = bit / 8 - 80 := by unfold wrap64; omega
  have e : impl_wordOf.f bit = some (if bit / 8 < 80 then bit / 8 / 8 else bit / 8 - 80) := by
    unfold impl_wordOf.f
    rw [hd, hw, hd2, hw2, hw3]
    split <;> rfl
  unfold wordB
  rw [e]
  refine ⟨rfl, ?_, ?_⟩
  · show 0 ≤ (if bit / 8 < 80 then bit / 8 / 8 else bit / 8 - 80)
    split <;> omega
  · show (if bit / 8 < 80 then bit / 8 / 8 else bit / 8 - 80) ≤ 10
    split <;> omega
def key3 (x : S101) : Int × Int × Int := (x.f1, x.f2, wordB x.f3)
/-- Is the word among those of the first n faults? -/
def hitN (l : List (S101)) (n : Nat) (k : Int × Int × Int) : Bool := (l.take n).any (fun x => key3 x == k)
theorem hitN_succ (l : List (S101)) (n : Nat) (hn : n < l.length) (k : Int × Int × Int) : hitN l (n + 1) k = (hitN l n k || key3 (rd_T101 l (n : Int)) == k) := by
  have e : rd_T101 l (n : Int) = l[n] := by simp [rd_T101, List.getD_eq_getElem?_getD, hn]
  unfold hitN
  rw [e, List.take_succ_eq_append_getElem hn, List.any_append]
  simp
/-- Are the first n faults single bits of words that no fault ahead has met? -/
def eccN (l : List (S101)) : Nat → Bool
  | 0 => true
  | n + 1 => eccN l n && ((rd_T101 l (n : Int)).f0 == 1 && !(hitN l n (key3 (rd_T101 l (n : Int)))))
theorem eccN_false (l : List (S101)) (n d : Nat) (h : eccN l n = false) : eccN l (n + d) = false := by
  induction d with
  | zero => exact h
  | succ d ih => rw [← Nat.add_assoc, eccN, ih, Bool.false_and]
structure Seen (l : List (S101)) (n : Nat) (D : DataW Unit) : Prop where
  map : Go.Maps.IsMap D
  at_ : ∀ k, wf3 k → D.atKey (KL k) (.lit (.bool false)) = .lit (.bool (hitN l n k))
theorem Seen.start (l : List (S101)) : Seen l 0 (.map []) := ⟨⟨[], rfl⟩, fun _ _ => rfl⟩
theorem Seen.put {l : List (S101)} {n : Nat} {D : DataW Unit} (h : Seen l n D) (hn : n < l.length) (hw : wf3 (key3 (rd_T101 l (n : Int)))) : Seen l (n + 1) (D.put (KL (key3 (rd_T101 l (n : Int)))) (.lit (.bool true))) := by
  refine ⟨?_, fun k hk => ?_⟩
  · obtain ⟨es, rfl⟩ := h.map
    exact ⟨_, rfl⟩
  · rw [hitN_succ l n hn]
    by_cases e : key3 (rd_T101 l (n : Int)) = k
    · subst e
      rw [Go.Maps.atKey_put_same h.map (lawK.key (keyOf3 hw))]
      simp
    · rw [Go.Maps.atKey_put_other (fun h2 => e (KL_inj hk hw h2).symm), h.at_ k hk]
      have e2 : (key3 (rd_T101 l (n : Int)) == k) = false := beq_eq_false_iff_ne.2 e
      rw [e2, Bool.or_false]
theorem plainElem_bool_inv {H : Type} {P : Program} {e : TypeId} (he : P.underlying e = some .bool) {v : Value} {b : Bool} {ps : List MemPlace} (h : plainElem (H := H) P e v = some (.lit (.bool b), ps)) : v = .bool b := by
  unfold plainElem at h
  rw [he] at h
  cases v <;> simp at h
  rw [h.1]
theorem own_drewN {w : World} {P : Program} {k : TypeId} {R : Value → Option (DataW Unit × List MemPlace)} {b n : Nat} {D : DataW Unit} (h : w.ownsMap P k R b n D) (m : Nat) : (w.drewN m).ownsMap P k R b n D := h
theorem zeroB (w : World) : (zeroValue 4).run Try.prog w = .ok (.bool false) w := by kernel_rfl
theorem look_hit {ops : Array Oper} {rest : List Oper} {o : Oper} {a : Act} {Q : Exit → Act → World → Prop} (w : World) (hg : o.guard = none) (m x : Operand) (hop : o.op = Op.lookup 107 m x false) (l : List (S101)) (n b : Nat) (D : DataW Unit)
    (hm : a.eval m = .map (some b)) (k : Nat) (hown : w.ownsMap Try.prog 108 (plainElem Try.prog 4) b k D) (ht : Seen l n D) (key : Int × Int × Int) (hx : a.eval x = KV key) (hw : wf3 key) (ok : Bool) (hok : hitN l n key = ok)
    (hK : wpList Try.prog ops Q rest (a.put o.dst (.bool ok)) w) :
    wpList Try.prog ops Q (o :: rest) a w := by
  refine wpList_plain hg fun K' hK' => ?_
  obtain ⟨v, ps, hrun, hv⟩ := hown.lookup lawK Try.underlying107 (zeroB w) (plainElem_bool Try.underlying4 false) (keyOf3 hw)
  rw [ht.at_ key hw, hok] at hv
  obtain rfl := plainElem_bool_inv Try.underlying4 hv
  unfold Oper.wp
  simp [execOp, hop, hm, hx, hrun, Result.andThen]
  exact hK' _ _ hK
theorem own_move3 {w w' : World} {b n : Nat} {D : DataW Unit} (h : w.ownsMap Try.prog 108 (plainElem Try.prog 4) b n D) (e : w'.heap[b]? = w.heap[b]?) : w'.ownsMap Try.prog 108 (plainElem Try.prog 4) b n D := by
  obtain ⟨es, clock, h1, h2⟩ := h
  exact ⟨es, clock, e.trans h1, h2⟩
theorem own_there3 {w : World} {b n : Nat} {D : DataW Unit} (h : w.ownsMap Try.prog 108 (plainElem Try.prog 4) b n D) : b < w.heap.size := by
  obtain ⟨es, clock, h1, h2⟩ := h
  exact (Array.getElem?_eq_some_iff.1 h1).1
theorem run_hit {W : World} {l : List (S101)} {n b : Nat} {D : DataW Unit} {k : Nat} (hown : W.ownsMap Try.prog 108 (plainElem Try.prog 4) b k D) (ht : Seen l n D) {key : Int × Int × Int} (hw : wf3 key) {ok : Bool} (hok : hitN l n key = ok) :
    (Instr.lookup 107 (.map (some b)) (.agg #[.int .i64 key.1, .int .i64 key.2.1, .int .i64 key.2.2]) false).run Try.prog W = .ok (.bool ok) W := by
  obtain ⟨v, ps, hrun, hv⟩ := hown.lookup lawK Try.underlying107 (zeroB W) (plainElem_bool Try.underlying4 false) (keyOf3 hw)
  rw [ht.at_ key hw, hok] at hv
  obtain rfl := plainElem_bool_inv Try.underlying4 hv
  exact hrun
theorem gen_world {K : Act → World → Prop} {Q : Exit → Act → World → Prop} {e : Exit} {a : Act} {w : World} (I : World → Prop) (hI : I w) (h : ∀ W, I W → Exit.then K Q e a W) : Exit.then K Q e a w := h w hI
theorem fault_bit {a b c x0 x1 x2 x3 : Int} (h : faultB a b c x0 x1 x2 x3 = true) : 0 ≤ x3 ∧ x3 ≤ 727 := by
  unfold faultB at h
  simp only at h
  split at h
  · simp only [Bool.and_eq_true] at h; exact inB_true h.2.2
  · split at h
    · simp only [Bool.and_eq_true] at h; exact inB_true h.2.2
    · split at h
      · simp only [Bool.and_eq_true, beq_iff_eq] at h; omega
      · split at h
        · simp only [Bool.and_eq_true] at h; have := inB_true h.2.2; omega
        · exact absurd h (by simp)
theorem fault_one {a b c x1 x2 x3 : Int} (hg : geoB a b c = true) (h : faultB a b c 1 x1 x2 x3 = true) : 0 ≤ x1 ∧ x1 ≤ 36 ∧ 0 ≤ x2 ∧ x2 ≤ 16 := by
  obtain ⟨g1, g2, g3, g4, g5⟩ := geo_bounds hg
  have m1 : a * b ≤ 3 * 12 := Int.mul_le_mul g2 g4 (by omega) (by decide)
  unfold faultB at h
  simp only at h
  rw [if_pos (by decide)] at h
  simp only [Bool.and_eq_true] at h
  have h1 := inB_true h.1
  have h2 := inB_true h.2.1
  omega
def impl_WithinEccBudget.f (a0_0 a0_1 a0_2 : Int) (l1 : List (S101)) : Option Bool := some ((geoB a0_0 a0_1 a0_2 && (decide ((l1.length : Int) ≤ 40) && !(l1.any (fun x => !(faultB a0_0 a0_1 a0_2 x.f0 x.f1 x.f2 x.f3))))) && eccN l1 l1.length)
set_option maxHeartbeats 8000000 in
set_option maxRecDepth 100000 in
theorem impl_WithinEccBudget.calls (a0_0 a0_1 a0_2 : Int) (A1 : Option Addr) (c1 : Nat) (l1 : List (S101)) (r : Bool) (w : World) (hr1 : Kd.C k101 w A1 l1.length l1) (hc1 : l1.length ≤ c1) (h : impl_WithinEccBudget.f a0_0 a0_1 a0_2 l1 = some r) :
    Calls Try.prog 47 #[.agg #[.int .i64 a0_0, .int .i64 a0_1, .int .i64 a0_2], .slice A1 l1.length c1] w fun e w' => e = .returned (.bool r) ∧ Below w.heap.size w w' := by
  have hmm := @run_makeMap Try.prog
  have hu29 := Try.underlying29
  have hu101 := Try.underlying101
  have hu108 := Try.underlying108
  obtain rfl := Option.some.inj h
  clear h
  have HR1 := Aside0.mk hr1
  have HC1 := Aside0.mk hc1
  clear hr1 hc1
  have HB := Aside0.mk (Below.refl w.heap.size w)
  obtain ⟨b, hb⟩ : ∃ b, (geoB a0_0 a0_1 a0_2 && (decide ((l1.length : Int) ≤ 40) && !(l1.any (fun x => !(faultB a0_0 a0_1 a0_2 x.f0 x.f1 x.f2 x.f3))))) = b := ⟨_, rfl⟩
  have HS : Aside0 (impl_scriptOk.f a0_0 a0_1 a0_2 l1 = some b) := ⟨by unfold impl_scriptOk.f; rw [hb]⟩
  rw [hb]
  cases b with
  | false =>
    rw [Bool.false_and]
    clear hb
    go_enter Try.func47, Try.ntmps47
    go_wp2_with (go_at_call 92; refine (impl_scriptOk.calls a0_0 a0_1 a0_2 A1 c1 l1 false _ (by exact Kd.C_below HR1.out (by repeat (first | (with_reducible first | exact HB.out | apply below_alloc | apply pw_below_drewN | apply below_drew1) | exact HB.out))) HC1.out HS.out).mono ?_; rintro e w1 ⟨rfl, hb1⟩)
    go_ret
    exact ⟨rfl, below_then (by repeat (first | (with_reducible first | exact HB.out | apply below_alloc | apply pw_below_drewN | apply below_drew1) | exact HB.out)) (by simp <;> omega) hb1⟩
  | true =>
    rw [Bool.true_and]
    obtain ⟨hgeo, hlen, hall⟩ : geoB a0_0 a0_1 a0_2 = true ∧ l1.length ≤ 40 ∧ ∀ x ∈ l1, faultB a0_0 a0_1 a0_2 x.f0 x.f1 x.f2 x.f3 = true := by
      simp only [Bool.and_eq_true, decide_eq_true_eq, Bool.not_eq_true', List.any_eq_false, Bool.not_eq_false] at hb
      refine ⟨hb.1, by omega, fun x hx => ?_⟩
      have h2 := hb.2.2 x hx
      simpa using h2
    have HG := Aside0.mk hgeo
    have HL := Aside0.mk hlen
    have HA := Aside0.mk hall
    clear hb hgeo hlen hall
    go_enter Try.func47, Try.ntmps47
    go_wp2_with (go_at_call 92; refine (impl_scriptOk.calls a0_0 a0_1 a0_2 A1 c1 l1 true _ (by exact Kd.C_below HR1.out (by repeat (first | (with_reducible first | exact HB.out | apply below_alloc | apply pw_below_drewN | apply below_drew1) | exact HB.out))) HC1.out HS.out).mono ?_; rintro e w1 ⟨rfl, hb1⟩; have HB1 := Aside0.mk (below_then (by repeat (first | (with_reducible first | exact HB.out | apply below_alloc | apply pw_below_drewN | apply below_drew1) | exact HB.out)) (by simp <;> omega) hb1); clear hb1)
    go_loopg [7, 8, 16] l1.length (fun gg _ _ v16 w' => ∃ (i : Nat) (D : DataW Unit), v16 = .int .i64 (i : Int) ∧ Aside0 (i ≤ l1.length) ∧ Aside0 (l1.length - i ≤ gg) ∧ Aside0 (w'.ownsMap Try.prog 108 (plainElem Try.prog 4) w1.heap.size i D) ∧ Aside0 (Seen l1 i D) ∧ Aside0 (eccN l1 i = true) ∧ Aside0 (Below w.heap.size w w'))
    case atStart => exact ⟨0, .map [], rfl, ⟨Nat.zero_le _⟩, ⟨by omega⟩, ⟨World.ownsMap_made _ _ _ _⟩, ⟨Seen.start l1⟩, ⟨rfl⟩, ⟨HB1.out.alloc HB1.out.size _⟩⟩
    case round =>
      obtain ⟨i, D, rfl, HI, HGG, HM, HT, HE, HB⟩ := hrel
      by_cases c : i < l1.length
      · have c1 : decide ((i : Int) < (l1.length : Int)) = true := decide_eq_true (by omega)
        have c2 : decide (i < l1.length) = true := decide_eq_true c
        have c3 : (i < l1.length) = True := eq_true c
        obtain ⟨ad, e, h0, h1, h2, h3⟩ := at_T101 (Kd.C_below HR1.out HB.out) (i : Int) (by omega) (by omega)
        cases e
        simp only [Int.toNat_natCast] at h0 h1 h2 h3
        have hmem : rd_T101 l1 (i : Int) ∈ l1 := by
          show l1.getD ((i : Int)).toNat z101 ∈ l1
          rw [Int.toNat_natCast]
          simp [List.getD_eq_getElem?_getD, c]
        have hf := HA.out _ hmem
        have hbit := fault_bit hf
        have HWO := Aside0.mk (wordB_ok hbit.1 hbit.2)
        have hone : (rd_T101 l1 (i : Int)).f0 = 1 → wf3 (key3 (rd_T101 l1 (i : Int))) := fun e => by
          rw [e] at hf
          have h4 := fault_one HG.out hf
          have h5 := HWO.out
          exact ⟨Lem.wf_i64 (by simp only [key3]; omega) (by simp only [key3]; omega), Lem.wf_i64 (by simp only [key3]; omega) (by simp only [key3]; omega), Lem.wf_i64 (by simp only [key3]; omega) (by simp only [key3]; omega)⟩
        have hput : (rd_T101 l1 (i : Int)).f0 = 1 → _ := fun e => HT.out.put c (hone e)
        have hsucc : eccN l1 (i + 1) = ((rd_T101 l1 (i : Int)).f0 == 1 && !(hitN l1 i (key3 (rd_T101 l1 (i : Int))))) := by rw [eccN, HE.out, Bool.true_and]
        have HPU := Aside0.mk hput
        have HON := Aside0.mk hone
        have HSU := Aside0.mk hsucc
        have HC := Aside0.mk c
        clear hput hone hsucc hbit hf hmem c
        generalize rd_T101 l1 (i : Int) = x at *
        cases hk : (x.f0 == 1) with
        | false =>
          have hn : (x.f0 != 1) = true := by simpa using hk
          have HK := Aside0.mk hk
          clear hk
          go_wp2
          go_region_held3 (fun w' => w'.cell? ⟨wr.heap.size, 0, none⟩ = some (.int .i64 x.f0) ∧ w'.cell? ⟨wr.heap.size, 1, none⟩ = some (.int .i64 x.f1) ∧ w'.cell? ⟨wr.heap.size, 2, none⟩ = some (.int .i64 x.f2) ∧ w'.cell? ⟨wr.heap.size, 3, none⟩ = some (.int .i64 x.f3)) (go_keep) (first | (go_at_call 93; refine (impl_wordOf.calls x.f3 (wordB x.f3) _ HWO.out.1).mono ?_; rintro e w2 ⟨rfl, ⟨nd, rfl⟩⟩))
          all_goals
            go_wp2
            go_ret
            refine ⟨?_, by repeat (first | exact HB.out | apply below_alloc | apply pw_below_drewN | apply below_drew1 | refine below_set ?_ (by have := below_size HB.out; omega))⟩
            obtain ⟨d, hd⟩ : ∃ d, l1.length = i + 1 + d := ⟨l1.length - (i + 1), by have := HC.out; omega⟩
            rw [hd, eccN_false l1 (i + 1) d (by rw [HSU.out, HK.out, Bool.false_and])]
            rfl
        | true =>
          have hn : (x.f0 != 1) = false := by simpa using hk
          have HK := Aside0.mk hk
          clear hk
          cases hh : hitN l1 i (key3 x) with
          | true =>
            have HH := Aside0.mk hh
            clear hh
            go_wp2
            go_region_held3 (fun w' => w'.cell? ⟨wr.heap.size, 0, none⟩ = some (.int .i64 x.f0) ∧ w'.cell? ⟨wr.heap.size, 1, none⟩ = some (.int .i64 x.f1) ∧ w'.cell? ⟨wr.heap.size, 2, none⟩ = some (.int .i64 x.f2) ∧ w'.cell? ⟨wr.heap.size, 3, none⟩ = some (.int .i64 x.f3)) (go_keep) (first | (go_at_call 93; refine (impl_wordOf.calls x.f3 (wordB x.f3) _ HWO.out.1).mono ?_; rintro e w2 ⟨rfl, ⟨nd, rfl⟩⟩))
            all_goals
              refine gen_world (fun W => W.cell? ⟨wr.heap.size, 0, none⟩ = some (.int .i64 x.f0) ∧ W.cell? ⟨wr.heap.size + 1, 0, none⟩ = some (.int .i64 x.f1) ∧ W.cell? ⟨wr.heap.size + 1, 1, none⟩ = some (.int .i64 x.f2) ∧ W.cell? ⟨wr.heap.size + 1, 2, none⟩ = some (.int .i64 (wordB x.f3)) ∧ W.ownsMap Try.prog 108 (plainElem Try.prog 4) w1.heap.size i D ∧ Below w.heap.size w W) ⟨by first | (simp; done) | (go_simp; done), by first | (simp; done) | (go_simp; done), by first | (simp; done) | (go_simp; done), by first | (simp; done) | (go_simp; done), by repeat (first | exact HM.out | apply World.ownsMap.alloc | apply own_drewN | apply World.ownsMap.drew | refine own_move3 ?_ (Below.heap_setCell _ ⟨wr.heap.size + 1, _, none⟩ _ _ (by have := own_there3 HM.out; show w1.heap.size ≠ wr.heap.size + 1; omega))), by repeat (first | exact HB.out | apply below_alloc | apply pw_below_drewN | apply below_drew1 | refine below_set ?_ (by have := below_size HB.out; omega))⟩ ?_
              rintro W ⟨y0, y1, y2, y3, HM2, HB2⟩
              have hlk := run_hit HM2 HT.out (HON.out (by simpa using HK.out)) HH.out
              simp only [key3] at hlk
              have HM3 := Aside0.mk HM2
              have HB3 := Aside0.mk HB2
              clear HM2 HB2
              go_wp2
              go_ret
              refine ⟨?_, HB3.out⟩
              obtain ⟨d, hd⟩ : ∃ d, l1.length = i + 1 + d := ⟨l1.length - (i + 1), by have := HC.out; omega⟩
              rw [hd, eccN_false l1 (i + 1) d (by rw [HSU.out, HK.out, HH.out]; rfl)]
              rfl
          | false =>
            have HH := Aside0.mk hh
            clear hh
            have hwi : wrap64 ((i : Int) + 1) = ((i + 1 : Nat) : Int) := by have := HL.out; have := HC.out; unfold wrap64; omega
            have HWI := Aside0.mk hwi
            clear hwi
            go_wp2
            go_region_held3 (fun w' => w'.cell? ⟨wr.heap.size, 0, none⟩ = some (.int .i64 x.f0) ∧ w'.cell? ⟨wr.heap.size, 1, none⟩ = some (.int .i64 x.f1) ∧ w'.cell? ⟨wr.heap.size, 2, none⟩ = some (.int .i64 x.f2) ∧ w'.cell? ⟨wr.heap.size, 3, none⟩ = some (.int .i64 x.f3)) (go_keep) (first | (go_at_call 93; refine (impl_wordOf.calls x.f3 (wordB x.f3) _ HWO.out.1).mono ?_; rintro e w2 ⟨rfl, ⟨nd, rfl⟩⟩))
            all_goals
              refine gen_world (fun W => W.cell? ⟨wr.heap.size, 0, none⟩ = some (.int .i64 x.f0) ∧ W.cell? ⟨wr.heap.size + 1, 0, none⟩ = some (.int .i64 x.f1) ∧ W.cell? ⟨wr.heap.size + 1, 1, none⟩ = some (.int .i64 x.f2) ∧ W.cell? ⟨wr.heap.size + 1, 2, none⟩ = some (.int .i64 (wordB x.f3)) ∧ W.ownsMap Try.prog 108 (plainElem Try.prog 4) w1.heap.size i D ∧ Below w.heap.size w W) ⟨by first | (simp; done) | (go_simp; done), by first | (simp; done) | (go_simp; done), by first | (simp; done) | (go_simp; done), by first | (simp; done) | (go_simp; done), by repeat (first | exact HM.out | apply World.ownsMap.alloc | apply own_drewN | apply World.ownsMap.drew | refine own_move3 ?_ (Below.heap_setCell _ ⟨wr.heap.size + 1, _, none⟩ _ _ (by have := own_there3 HM.out; show w1.heap.size ≠ wr.heap.size + 1; omega))), by repeat (first | exact HB.out | apply below_alloc | apply pw_below_drewN | apply below_drew1 | refine below_set ?_ (by have := below_size HB.out; omega))⟩ ?_
              rintro W ⟨y0, y1, y2, y3, HM2, HB2⟩
              have hlk := run_hit HM2 HT.out (HON.out (by simpa using HK.out)) HH.out
              simp only [key3] at hlk
              have HM3 := Aside0.mk HM2
              have HB3 := Aside0.mk HB2
              clear HM2 HB2
              go_wp2_with (at_mapUpdate; refine wpList_mapUpdate_own _ rfl _ _ _ 107 rfl 108 4 lawK Try.underlying107 (plainElem Try.prog 4) w1.heap.size i D rfl HM3.out (by have := HL.out; have := HC.out; unfold maxLen; omega) (KV (key3 x)) (.bool true) (KL (key3 x)) rfl rfl (keyOf3 (HON.out (by simpa using HK.out))) (.lit (.bool true)) [] (plainElem_bool Try.underlying4 true) ?_; intro w11 hown11 hgrow11)
              go_roundg (l1.length - (i + 1))
              case measure => have := HC.out; have := HGG.out; omega
              case rel => exact ⟨i + 1, _, by rw [HWI.out], ⟨by have := HC.out; omega⟩, ⟨Nat.le_refl _⟩, ⟨hown11⟩, ⟨HPU.out (by simpa using HK.out)⟩, ⟨by rw [HSU.out, HK.out, HH.out]; rfl⟩, ⟨Below.grown HB3.out hgrow11 HB3.out.size (fun j hj => by cases hj; exact HB1.out.size)⟩⟩
      · obtain rfl : i = l1.length := by have := HI.out; omega
        have c1 : decide ((l1.length : Int) < (l1.length : Int)) = false := decide_eq_false (by omega)
        have c2 : decide (l1.length < l1.length) = false := decide_eq_false c
        clear c
        go_wp2
        go_ret
        exact ⟨by rw [HE.out]; rfl, HB.out⟩

/-! ### laws_FnExactWithinEccBudget: function 11 -/
def laws_FnExactWithinEccBudget.f (k : Nat) (a0_0 : Int) (a0_1 : Int) (a0_2 : Int) (l1 : List (S104)) : Option (Bool) := (laws_szFaultS.f l1 1048576).bind fun t160 => (if t160 < 0 then (some true) else ((laws_toGeometry.f a0_0 a0_1 a0_2).bind fun bt161 => ((laws_toFaultS.f k l1).bind fun t164 => ((spec_WithinEccBudget.f k bt161.1 bt161.2.1 bt161.2.2 t164).bind fun t167 => ((laws_toFaultS.f k l1).bind fun t168 => ((laws_toGeometry.f a0_0 a0_1 a0_2).bind fun bt171 => ((impl_WithinEccBudget.f bt171.1 bt171.2.1 bt171.2.2 t168).bind fun t174 => (if (t174 != t167) = true then (some false) else ((laws_toFaultS.f k l1).bind fun t175 => ((laws_eqFaultS.f k t168 t175).bind fun t178 => (if t178 = true then (some true) else (some false))))))))))))
theorem laws_FnExactWithinEccBudget.mono : ∀ a0 a1 a2 a3 k, LeO (laws_FnExactWithinEccBudget.f k a0 a1 a2 a3) (laws_FnExactWithinEccBudget.f (k + 1) a0 a1 a2 a3) := by
  intro a0 a1 a2 a3 k
  unfold laws_FnExactWithinEccBudget.f
  repeat' first
      | (with_reducible exact laws_eqFaultS.mono _ _ _)
      | (with_reducible exact laws_toFaultS.mono _ _)
      | (with_reducible exact spec_WithinEccBudget.mono _ _ _ _ _)
      | (with_reducible exact LeO.refl _)
      | (with_reducible exact LeO.none _)
      | (with_reducible refine LeO.ite ?_ ?_)
      | (with_reducible refine LeO.bind ?_ (fun _ => ?_))
      | exact laws_eqFaultS.mono _ _ _
      | exact laws_toFaultS.mono _ _
      | exact spec_WithinEccBudget.mono _ _ _ _ _
      | exact LeO.none _
      | refine LeO.ite ?_ ?_
      | refine LeO.bind ?_ (fun _ => ?_)
set_option maxHeartbeats 8000000 in
set_option maxRecDepth 100000 in
theorem laws_FnExactWithinEccBudget.calls (k : Nat) (a0_0 : Int) (a0_1 : Int) (a0_2 : Int) (A1 : Option Addr) (c1 : Nat) (l1 : List (S104)) (r : Bool) (w : World) (hr1 : Kd.C k104 w A1 l1.length l1) (hc1 : l1.length ≤ c1) (hT_ : r = true) (h : laws_FnExactWithinEccBudget.f k a0_0 a0_1 a0_2 l1 = some r) :
    Calls Try.prog 11 #[.agg #[.int .i64 a0_0, .int .i64 a0_1, .int .i64 a0_2], .slice A1 l1.length c1] w fun e w' => e = .returned (.bool r) ∧ Below w.heap.size w w' := by
  have hu23 := Try.underlying23
  have HR1 := Aside0.mk hr1
  have HC1 := Aside0.mk hc1
  clear hr1 hc1
  have HB := Aside0.mk (Below.refl w.heap.size w)
  have H : ((laws_szFaultS.f l1 1048576).bind fun t160 => (if t160 < 0 then (some true) else ((laws_toGeometry.f a0_0 a0_1 a0_2).bind fun bt161 => ((laws_toFaultS.f k l1).bind fun t164 => ((spec_WithinEccBudget.f k bt161.1 bt161.2.1 bt161.2.2 t164).bind fun t167 => ((laws_toFaultS.f k l1).bind fun t168 => ((laws_toGeometry.f a0_0 a0_1 a0_2).bind fun bt171 => ((impl_WithinEccBudget.f bt171.1 bt171.2.1 bt171.2.2 t168).bind fun t174 => (if (t174 != t167) = true then (some false) else ((laws_toFaultS.f k l1).bind fun t175 => ((laws_eqFaultS.f k t168 t175).bind fun t178 => (if t178 = true then (some true) else (some false))))))))))))) = some r := h
  clear h
  replace H := Option.bind_eq_some_iff.mp H
  obtain ⟨t160, A30, H⟩ := H
  replace H : (if t160 < 0 then (some true) else ((laws_toGeometry.f a0_0 a0_1 a0_2).bind fun bt161 => ((laws_toFaultS.f k l1).bind fun t164 => ((spec_WithinEccBudget.f k bt161.1 bt161.2.1 bt161.2.2 t164).bind fun t167 => ((laws_toFaultS.f k l1).bind fun t168 => ((laws_toGeometry.f a0_0 a0_1 a0_2).bind fun bt171 => ((impl_WithinEccBudget.f bt171.1 bt171.2.1 bt171.2.2 t168).bind fun t174 => (if (t174 != t167) = true then (some false) else ((laws_toFaultS.f k l1).bind fun t175 => ((laws_eqFaultS.f k t168 t175).bind fun t178 => (if t178 = true then (some true) else (some false)))))))))))) = some r := H
  have A3 := Aside0.mk A30
  clear A30
  by_cases c4 : t160 < 0
  · rw [if_pos c4] at H
    have c4b0 : decide (t160 < 0) = true := decide_eq_true c4
    clear c4
    obtain rfl := Option.some.inj H
    go_enter Try.func11, Try.ntmps11
    go_wp2_with (first | ((with_reducible refine gate_dst (N := 2) rfl ?_); refine box_event ?hg (N := 2) ?hd (cs := #[.int .i64 a0_0, .int .i64 a0_1, .int .i64 a0_2]) (t := 23) ?hr ?_; (case hd => rfl); (case hg => rfl); (case hr => first | (go_simp; done) | (go_simp; rfl)); intro gb159 hg w5 hbox hb; have n0_ := Aside0.mk (below_step (by repeat (first | (with_reducible first | exact HB.out | apply below_alloc | apply pw_below_drewN | apply below_drew1) | exact HB.out)) hb); have n1_ := Aside0.mk (hbox); have n2_ := Aside0.mk ((by rw [hg]; exact (below_size (by repeat (first | (with_reducible first | exact HB.out | apply below_alloc | apply pw_below_drewN | apply below_drew1) | exact HB.out))) : w.heap.size ≤ gb159)); have n3_ := Aside0.mk ((by rw [hg]; exact (below_size (by repeat (first | (with_reducible first | exact HB.out | apply below_alloc | apply pw_below_drewN | apply below_drew1) | exact HB.out))) : w.heap.size ≤ gb159)); clear HB; have HB := n0_; have BK159 := n1_; have GW159 := n2_; have GE159 := n3_; clear n0_ n1_ n2_ n3_; clear hb hbox hg) | ((with_reducible refine gate_callee (f := 40) rfl ?_); refine goesL_ (some 11) rfl rfl Try.func40 (by kernel_rfl) rfl #[.slice A1 l1.length c1, .int .i64 1048576] rfl (by (try simp only [List.map_toArray, List.map_cons, List.map_nil]); first | done | rfl | (simp only [List.length_drop, List.length_take]; rfl)) ?_; (with_reducible refine (laws_szFaultS.calls _ _ l1 1048576 t160 _ ?side1 ?side2 A3.out).mono ?_); (case side1 => repeat (first | exact (Kd.C_below HR1.out HB.out) | (with_reducible refine Kd.C_alloc ?_ _) | (with_reducible refine Kd.C_drewN ?_ _) | (with_reducible refine Kd.C_drew ?_))); (case side2 => exact HC1.out); rintro e w' ⟨rfl, ⟨nd, rfl⟩⟩; refine ⟨_, rfl, ?_⟩))
    go_ret
    exact ⟨by first | rfl | (simp [errW_none, errW_some] <;> rfl) | (simp [*, errW_none, errW_some] <;> rfl), by repeat (first | (with_reducible first | exact HB.out | apply below_alloc | apply pw_below_drewN | apply below_drew1 | refine below_set ?_ GE159.out) | exact HB.out)⟩
  · rw [if_neg c4] at H
    have c4b0 : decide (t160 < 0) = false := decide_eq_false c4
    clear c4
    replace H := Option.bind_eq_some_iff.mp H
    obtain ⟨⟨t161, t162, t163⟩, A60, H⟩ := H
    replace H : ((laws_toFaultS.f k l1).bind fun t164 => ((spec_WithinEccBudget.f k t161 t162 t163 t164).bind fun t167 => ((laws_toFaultS.f k l1).bind fun t168 => ((laws_toGeometry.f a0_0 a0_1 a0_2).bind fun bt171 => ((impl_WithinEccBudget.f bt171.1 bt171.2.1 bt171.2.2 t168).bind fun t174 => (if (t174 != t167) = true then (some false) else ((laws_toFaultS.f k l1).bind fun t175 => ((laws_eqFaultS.f k t168 t175).bind fun t178 => (if t178 = true then (some true) else (some false)))))))))) = some r := H
    have A6 := Aside0.mk A60
    clear A60
    replace H := Option.bind_eq_some_iff.mp H
    obtain ⟨t164, A70, H⟩ := H
    replace H : ((spec_WithinEccBudget.f k t161 t162 t163 t164).bind fun t167 => ((laws_toFaultS.f k l1).bind fun t168 => ((laws_toGeometry.f a0_0 a0_1 a0_2).bind fun bt171 => ((impl_WithinEccBudget.f bt171.1 bt171.2.1 bt171.2.2 t168).bind fun t174 => (if (t174 != t167) = true then (some false) else ((laws_toFaultS.f k l1).bind fun t175 => ((laws_eqFaultS.f k t168 t175).bind fun t178 => (if t178 = true then (some true) else (some false))))))))) = some r := H
    have A7 := Aside0.mk A70
    clear A70
    replace H := Option.bind_eq_some_iff.mp H
    obtain ⟨t167, A80, H⟩ := H
    replace H : ((laws_toFaultS.f k l1).bind fun t168 => ((laws_toGeometry.f a0_0 a0_1 a0_2).bind fun bt171 => ((impl_WithinEccBudget.f bt171.1 bt171.2.1 bt171.2.2 t168).bind fun t174 => (if (t174 != t167) = true then (some false) else ((laws_toFaultS.f k l1).bind fun t175 => ((laws_eqFaultS.f k t168 t175).bind fun t178 => (if t178 = true then (some true) else (some false)))))))) = some r := H
    have A8 := Aside0.mk A80
    clear A80
    replace H := Option.bind_eq_some_iff.mp H
    obtain ⟨t168, A90, H⟩ := H
    replace H : ((laws_toGeometry.f a0_0 a0_1 a0_2).bind fun bt171 => ((impl_WithinEccBudget.f bt171.1 bt171.2.1 bt171.2.2 t168).bind fun t174 => (if (t174 != t167) = true then (some false) else ((laws_toFaultS.f k l1).bind fun t175 => ((laws_eqFaultS.f k t168 t175).bind fun t178 => (if t178 = true then (some true) else (some false))))))) = some r := H
    have A9 := Aside0.mk A90
    clear A90
    replace H := Option.bind_eq_some_iff.mp H
    obtain ⟨⟨t171, t172, t173⟩, A100, H⟩ := H
    replace H : ((impl_WithinEccBudget.f t171 t172 t173 t168).bind fun t174 => (if (t174 != t167) = true then (some false) else ((laws_toFaultS.f k l1).bind fun t175 => ((laws_eqFaultS.f k t168 t175).bind fun t178 => (if t178 = true then (some true) else (some false)))))) = some r := H
    have A10 := Aside0.mk A100
    clear A100
    replace H := Option.bind_eq_some_iff.mp H
    obtain ⟨t174, A110, H⟩ := H
    replace H : (if (t174 != t167) = true then (some false) else ((laws_toFaultS.f k l1).bind fun t175 => ((laws_eqFaultS.f k t168 t175).bind fun t178 => (if t178 = true then (some true) else (some false))))) = some r := H
    have A11 := Aside0.mk A110
    clear A110
    by_cases c12 : (t174 != t167) = true
    · rw [if_pos c12] at H
      have c12b0 : (t174 != t167) = true := c12
      (try (have c12b1 : decide (t174 = t167) = false := by simpa using c12))
      (try (have c12b2 : (t174 == t167) = false := by simpa using c12))
      (try (have c12b3 : ¬ (t174 = t167) := by simpa using c12))
      clear c12
      obtain rfl := Option.some.inj H
      exact absurd hT_ (by decide)
    · rw [if_neg c12] at H
      have c12b0 : (t174 != t167) = false := by simpa using c12
      (try (have c12b1 : decide (t174 = t167) = true := by simpa using c12))
      (try (have c12b2 : (t174 == t167) = true := by simpa using c12))
      clear c12
      replace H := Option.bind_eq_some_iff.mp H
      obtain ⟨t175, A130, H⟩ := H
      replace H : ((laws_eqFaultS.f k t168 t175).bind fun t178 => (if t178 = true then (some true) else (some false))) = some r := H
      have A13 := Aside0.mk A130
      clear A130
      replace H := Option.bind_eq_some_iff.mp H
      obtain ⟨t178, A140, H⟩ := H
      replace H : (if t178 = true then (some true) else (some false)) = some r := H
      have A14 := Aside0.mk A140
      clear A140
      by_cases c15 : t178 = true
      · subst c15
        have H1 : (some true) = some r := by rw [if_pos rfl] at H; exact H
        clear H
        have H := H1
        clear H1
        obtain rfl := Option.some.inj H
        go_enter Try.func11, Try.ntmps11
        go_wp2_with (first | ((with_reducible refine gate_dst (N := 2) rfl ?_); refine box_event ?hg (N := 2) ?hd (cs := #[.int .i64 a0_0, .int .i64 a0_1, .int .i64 a0_2]) (t := 23) ?hr ?_; (case hd => rfl); (case hg => rfl); (case hr => first | (go_simp; done) | (go_simp; rfl)); intro gb159 hg w16 hbox hb; have n0_ := Aside0.mk (below_step (by repeat (first | (with_reducible first | exact HB.out | apply below_alloc | apply pw_below_drewN | apply below_drew1) | exact HB.out)) hb); have n1_ := Aside0.mk (hbox); have n2_ := Aside0.mk ((by rw [hg]; exact (below_size (by repeat (first | (with_reducible first | exact HB.out | apply below_alloc | apply pw_below_drewN | apply below_drew1) | exact HB.out))) : w.heap.size ≤ gb159)); have n3_ := Aside0.mk ((by rw [hg]; exact (below_size (by repeat (first | (with_reducible first | exact HB.out | apply below_alloc | apply pw_below_drewN | apply below_drew1) | exact HB.out))) : w.heap.size ≤ gb159)); clear HB; have HB := n0_; have BK159 := n1_; have GW159 := n2_; have GE159 := n3_; clear n0_ n1_ n2_ n3_; clear hb hbox hg) | ((with_reducible refine gate_callee (f := 40) rfl ?_); refine goesL_ (some 11) rfl rfl Try.func40 (by kernel_rfl) rfl #[.slice A1 l1.length c1, .int .i64 1048576] rfl (by (try simp only [List.map_toArray, List.map_cons, List.map_nil]); first | done | rfl | (simp only [List.length_drop, List.length_take]; rfl)) ?_; (with_reducible refine (laws_szFaultS.calls _ _ l1 1048576 t160 _ ?side1 ?side2 A3.out).mono ?_); (case side1 => repeat (first | exact (Kd.C_below HR1.out HB.out) | (with_reducible refine Kd.C_alloc ?_ _) | (with_reducible refine Kd.C_drewN ?_ _) | (with_reducible refine Kd.C_drew ?_))); (case side2 => exact HC1.out); rintro e w' ⟨rfl, ⟨nd, rfl⟩⟩; refine ⟨_, rfl, ?_⟩; have hcz17_0 : w16.cell? ⟨gb159, 0, none⟩ = some (.int .i64 a0_0) := (blk_cell BK159.out 0).trans rfl; have hcz17_1 : w16.cell? ⟨gb159, 1, none⟩ = some (.int .i64 a0_1) := (blk_cell BK159.out 1).trans rfl; have hcz17_2 : w16.cell? ⟨gb159, 2, none⟩ = some (.int .i64 a0_2) := (blk_cell BK159.out 2).trans rfl; have hfz17_0 := blk_frozen BK159.out 0; have hfz17_1 := blk_frozen BK159.out 1; have hfz17_2 := blk_frozen BK159.out 2) | ((with_reducible refine gate_callee (f := 24) rfl ?_); refine goesL_ (some 15) rfl rfl Try.func24 (by kernel_rfl) rfl #[.agg #[.int .i64 a0_0, .int .i64 a0_1, .int .i64 a0_2]] rfl (by (try simp only [List.map_toArray, List.map_cons, List.map_nil]); first | done | rfl | (simp only [List.length_drop, List.length_take]; rfl)) ?_; (with_reducible refine (laws_toGeometry.calls a0_0 a0_1 a0_2 t161 t162 t163 _ A6.out).mono ?_); rintro e w18 ⟨rfl, hb⟩; refine ⟨_, rfl, ?_⟩; have n0_ := Aside0.mk (blk_below (g := gb159) (o := .cells #[.int .i64 a0_0, .int .i64 a0_1, .int .i64 a0_2] 23 (0, 0)) (by (with_reducible repeat (first | refine blk_drewN ?_ _ | refine blk_drew ?_ | refine blk_alloc ?_ _)); exact BK159.out) hb); have n1_ := Aside0.mk (below_step (by repeat (first | (with_reducible first | exact HB.out | apply below_alloc | apply pw_below_drewN | apply below_drew1 | refine below_set ?_ GE159.out) | exact HB.out)) hb); clear BK159; clear HB; have BK159 := n0_; have HB := n1_; clear n0_ n1_; (try clear hb); (try clear hb2); (try clear hk); (try clear hi)) | ((with_reducible refine gate_callee (f := 42) rfl ?_); refine goesL_ (some 17) rfl rfl Try.func42 (by kernel_rfl) rfl #[.slice A1 l1.length c1] rfl (by (try simp only [List.map_toArray, List.map_cons, List.map_nil]); first | done | rfl | (simp only [List.length_drop, List.length_take]; rfl)) ?_; (with_reducible refine (laws_toFaultS.calls k _ _ l1 t164 _ ?side1 ?side2 A7.out).mono ?_); (case side1 => repeat (first | exact (Kd.C_below HR1.out HB.out) | (with_reducible refine Kd.C_alloc ?_ _) | (with_reducible refine Kd.C_drewN ?_ _) | (with_reducible refine Kd.C_drew ?_))); (case side2 => exact HC1.out); rintro e w19 ⟨v165, rfl, ho0, hb⟩; refine ⟨_, rfl, ?_⟩; have n0_ := Aside0.mk (Kd.R_lower ho0 (below_size (by repeat (first | (with_reducible first | exact HB.out | apply below_alloc | apply pw_below_drewN | apply below_drew1 | refine below_set ?_ GE159.out) | exact HB.out)))); have n1_ := Aside0.mk (blk_below (g := gb159) (o := .cells #[.int .i64 a0_0, .int .i64 a0_1, .int .i64 a0_2] 23 (0, 0)) (by (with_reducible repeat (first | refine blk_drewN ?_ _ | refine blk_drew ?_ | refine blk_alloc ?_ _)); exact BK159.out) hb); have n2_ := Aside0.mk (below_step (by repeat (first | (with_reducible first | exact HB.out | apply below_alloc | apply pw_below_drewN | apply below_drew1 | refine below_set ?_ GE159.out) | exact HB.out)) hb); clear BK159; clear HB; have HO166 := n0_; have BK159 := n1_; have HB := n2_; clear n0_ n1_ n2_; (try clear hb); (try clear hb2); (try clear hk); (try clear hi); (try clear ho0); obtain ⟨Ao20, co20, eo20⟩ := Kd.R_slice HO166.out; subst eo20) | ((with_reducible refine gate_callee (f := 46) rfl ?_); refine goesL_ (some 18) rfl rfl Try.func46 (by kernel_rfl) rfl #[.agg #[.int .i64 t161, .int .i64 t162, .int .i64 t163], .slice Ao20 t164.length co20] rfl (by (try simp only [List.map_toArray, List.map_cons, List.map_nil]); first | done | rfl | (simp only [List.length_drop, List.length_take]; rfl)) ?_; (with_reducible refine (spec_WithinEccBudget.calls k t161 t162 t163 _ _ t164 t167 _ ?side1 ?side2 A8.out).mono ?_); (case side1 => repeat (first | exact (Kd.R_reads' HO166.out).2.2 | (with_reducible refine Kd.C_alloc ?_ _) | (with_reducible refine Kd.C_drewN ?_ _) | (with_reducible refine Kd.C_drew ?_))); (case side2 => exact (Kd.R_reads' HO166.out).2.1); rintro e w21 ⟨rfl, hb⟩; refine ⟨_, rfl, ?_⟩; have n0_ := Aside0.mk (Kd.R_below (by (with_reducible repeat (first | apply Kd.R_alloc | apply Kd.R_drewN | apply Kd.R_drew)); exact HO166.out) hb); have n1_ := Aside0.mk (blk_below (g := gb159) (o := .cells #[.int .i64 a0_0, .int .i64 a0_1, .int .i64 a0_2] 23 (0, 0)) (by (with_reducible repeat (first | refine blk_drewN ?_ _ | refine blk_drew ?_ | refine blk_alloc ?_ _)); exact BK159.out) hb); have n2_ := Aside0.mk (below_step (by repeat (first | (with_reducible first | exact HB.out | apply below_alloc | apply pw_below_drewN | apply below_drew1 | refine below_set ?_ GE159.out) | exact HB.out)) hb); clear HO166; clear BK159; clear HB; have HO166 := n0_; have BK159 := n1_; have HB := n2_; clear n0_ n1_ n2_; (try clear hb); (try clear hb2); (try clear hk); (try clear hi)) | ((with_reducible refine gate_callee (f := 42) rfl ?_); refine goesL_ (some 20) rfl rfl Try.func42 (by kernel_rfl) rfl #[.slice A1 l1.length c1] rfl (by (try simp only [List.map_toArray, List.map_cons, List.map_nil]); first | done | rfl | (simp only [List.length_drop, List.length_take]; rfl)) ?_; (with_reducible refine (laws_toFaultS.calls k _ _ l1 t168 _ ?side1 ?side2 A9.out).mono ?_); (case side1 => repeat (first | exact (Kd.C_below HR1.out HB.out) | (with_reducible refine Kd.C_alloc ?_ _) | (with_reducible refine Kd.C_drewN ?_ _) | (with_reducible refine Kd.C_drew ?_))); (case side2 => exact HC1.out); rintro e w22 ⟨v169, rfl, ho0, hb⟩; refine ⟨_, rfl, ?_⟩; have n0_ := Aside0.mk (Kd.R_elder' (by (with_reducible repeat (first | apply Kd.R_alloc | apply Kd.R_drewN | apply Kd.R_drew)); exact HO166.out) (Kd.R_base ho0) hb); have n1_ := Aside0.mk (Kd.R_lower (Kd.R_new' ho0 (Kd.R_lt (by (with_reducible repeat (first | apply Kd.R_alloc | apply Kd.R_drewN | apply Kd.R_drew)); exact HO166.out))) (below_size (by repeat (first | (with_reducible first | exact HB.out | apply below_alloc | apply pw_below_drewN | apply below_drew1 | refine below_set ?_ GE159.out) | exact HB.out)))); have n2_ := Aside0.mk (blk_below (g := gb159) (o := .cells #[.int .i64 a0_0, .int .i64 a0_1, .int .i64 a0_2] 23 (0, 0)) (by (with_reducible repeat (first | refine blk_drewN ?_ _ | refine blk_drew ?_ | refine blk_alloc ?_ _)); exact BK159.out) hb); have n3_ := Aside0.mk (below_step (by repeat (first | (with_reducible first | exact HB.out | apply below_alloc | apply pw_below_drewN | apply below_drew1 | refine below_set ?_ GE159.out) | exact HB.out)) hb); clear HO166; clear BK159; clear HB; have HO166 := n0_; have HO170 := n1_; have BK159 := n2_; have HB := n3_; clear n0_ n1_ n2_ n3_; (try clear hb); (try clear hb2); (try clear hk); (try clear hi); (try clear ho0); have hcz23_0 : w22.cell? ⟨gb159, 0, none⟩ = some (.int .i64 a0_0) := (blk_cell BK159.out 0).trans rfl; have hcz23_1 : w22.cell? ⟨gb159, 1, none⟩ = some (.int .i64 a0_1) := (blk_cell BK159.out 1).trans rfl; have hcz23_2 : w22.cell? ⟨gb159, 2, none⟩ = some (.int .i64 a0_2) := (blk_cell BK159.out 2).trans rfl; have hfz23_0 := blk_frozen BK159.out 0; have hfz23_1 := blk_frozen BK159.out 1; have hfz23_2 := blk_frozen BK159.out 2) | ((with_reducible refine gate_callee (f := 24) rfl ?_); refine goesL_ (some 22) rfl rfl Try.func24 (by kernel_rfl) rfl #[.agg #[.int .i64 a0_0, .int .i64 a0_1, .int .i64 a0_2]] rfl (by (try simp only [List.map_toArray, List.map_cons, List.map_nil]); first | done | rfl | (simp only [List.length_drop, List.length_take]; rfl)) ?_; (with_reducible refine (laws_toGeometry.calls a0_0 a0_1 a0_2 t171 t172 t173 _ A10.out).mono ?_); rintro e w24 ⟨rfl, hb⟩; refine ⟨_, rfl, ?_⟩; have n0_ := Aside0.mk (Kd.R_below (by (with_reducible repeat (first | apply Kd.R_alloc | apply Kd.R_drewN | apply Kd.R_drew)); exact HO166.out) hb); have n1_ := Aside0.mk (Kd.R_below (by (with_reducible repeat (first | apply Kd.R_alloc | apply Kd.R_drewN | apply Kd.R_drew)); exact HO170.out) hb); have n2_ := Aside0.mk (blk_below (g := gb159) (o := .cells #[.int .i64 a0_0, .int .i64 a0_1, .int .i64 a0_2] 23 (0, 0)) (by (with_reducible repeat (first | refine blk_drewN ?_ _ | refine blk_drew ?_ | refine blk_alloc ?_ _)); exact BK159.out) hb); have n3_ := Aside0.mk (below_step (by repeat (first | (with_reducible first | exact HB.out | apply below_alloc | apply pw_below_drewN | apply below_drew1 | refine below_set ?_ GE159.out) | exact HB.out)) hb); clear HO166; clear HO170; clear BK159; clear HB; have HO166 := n0_; have HO170 := n1_; have BK159 := n2_; have HB := n3_; clear n0_ n1_ n2_ n3_; (try clear hb); (try clear hb2); (try clear hk); (try clear hi); obtain ⟨Ao25, co25, eo25⟩ := Kd.R_slice HO170.out; subst eo25) | ((with_reducible refine gate_callee (f := 47) rfl ?_); refine goesL_ (some 24) rfl rfl Try.func47 (by kernel_rfl) rfl #[.agg #[.int .i64 t171, .int .i64 t172, .int .i64 t173], .slice Ao25 t168.length co25] rfl (by (try simp only [List.map_toArray, List.map_cons, List.map_nil]); first | done | rfl | (simp only [List.length_drop, List.length_take]; rfl)) ?_; (with_reducible refine (impl_WithinEccBudget.calls t171 t172 t173 _ _ t168 t174 _ ?side1 ?side2 A11.out).mono ?_); (case side1 => repeat (first | exact (Kd.R_reads' HO170.out).2.2 | (with_reducible refine Kd.C_alloc ?_ _) | (with_reducible refine Kd.C_drewN ?_ _) | (with_reducible refine Kd.C_drew ?_))); (case side2 => exact (Kd.R_reads' HO170.out).2.1); rintro e w26 ⟨rfl, hb⟩; refine ⟨_, rfl, ?_⟩; have n0_ := Aside0.mk (Kd.R_below (by (with_reducible repeat (first | apply Kd.R_alloc | apply Kd.R_drewN | apply Kd.R_drew)); exact HO166.out) hb); have n1_ := Aside0.mk (Kd.R_below (by (with_reducible repeat (first | apply Kd.R_alloc | apply Kd.R_drewN | apply Kd.R_drew)); exact HO170.out) hb); have n2_ := Aside0.mk (blk_below (g := gb159) (o := .cells #[.int .i64 a0_0, .int .i64 a0_1, .int .i64 a0_2] 23 (0, 0)) (by (with_reducible repeat (first | refine blk_drewN ?_ _ | refine blk_drew ?_ | refine blk_alloc ?_ _)); exact BK159.out) hb); have n3_ := Aside0.mk (below_step (by repeat (first | (with_reducible first | exact HB.out | apply below_alloc | apply pw_below_drewN | apply below_drew1 | refine below_set ?_ GE159.out) | exact HB.out)) hb); clear HO166; clear HO170; clear BK159; clear HB; have HO166 := n0_; have HO170 := n1_; have BK159 := n2_; have HB := n3_; clear n0_ n1_ n2_ n3_; (try clear hb); (try clear hb2); (try clear hk); (try clear hi)) | ((with_reducible refine gate_callee (f := 42) rfl ?_); refine goesL_ (some 30) rfl rfl Try.func42 (by kernel_rfl) rfl #[.slice A1 l1.length c1] rfl (by (try simp only [List.map_toArray, List.map_cons, List.map_nil]); first | done | rfl | (simp only [List.length_drop, List.length_take]; rfl)) ?_; (with_reducible refine (laws_toFaultS.calls k _ _ l1 t175 _ ?side1 ?side2 A13.out).mono ?_); (case side1 => repeat (first | exact (Kd.C_below HR1.out HB.out) | (with_reducible refine Kd.C_alloc ?_ _) | (with_reducible refine Kd.C_drewN ?_ _) | (with_reducible refine Kd.C_drew ?_))); (case side2 => exact HC1.out); rintro e w27 ⟨v176, rfl, ho0, hb⟩; refine ⟨_, rfl, ?_⟩; have n0_ := Aside0.mk (Kd.R_elder' (by (with_reducible repeat (first | apply Kd.R_alloc | apply Kd.R_drewN | apply Kd.R_drew)); exact HO166.out) (Kd.R_base ho0) hb); have n1_ := Aside0.mk (Kd.R_elder' (by (with_reducible repeat (first | apply Kd.R_alloc | apply Kd.R_drewN | apply Kd.R_drew)); exact HO170.out) (Kd.R_base ho0) hb); have n2_ := Aside0.mk (Kd.R_lower (Kd.R_new' (Kd.R_new' ho0 (Kd.R_lt (by (with_reducible repeat (first | apply Kd.R_alloc | apply Kd.R_drewN | apply Kd.R_drew)); exact HO166.out))) (Kd.R_lt (by (with_reducible repeat (first | apply Kd.R_alloc | apply Kd.R_drewN | apply Kd.R_drew)); exact HO170.out))) (below_size (by repeat (first | (with_reducible first | exact HB.out | apply below_alloc | apply pw_below_drewN | apply below_drew1 | refine below_set ?_ GE159.out) | exact HB.out)))); have n3_ := Aside0.mk (blk_below (g := gb159) (o := .cells #[.int .i64 a0_0, .int .i64 a0_1, .int .i64 a0_2] 23 (0, 0)) (by (with_reducible repeat (first | refine blk_drewN ?_ _ | refine blk_drew ?_ | refine blk_alloc ?_ _)); exact BK159.out) hb); have n4_ := Aside0.mk (below_step (by repeat (first | (with_reducible first | exact HB.out | apply below_alloc | apply pw_below_drewN | apply below_drew1 | refine below_set ?_ GE159.out) | exact HB.out)) hb); clear HO166; clear HO170; clear BK159; clear HB; have HO166 := n0_; have HO170 := n1_; have HO177 := n2_; have BK159 := n3_; have HB := n4_; clear n0_ n1_ n2_ n3_ n4_; (try clear hb); (try clear hb2); (try clear hk); (try clear hi); (try clear ho0); obtain ⟨Ao28, co28, eo28⟩ := Kd.R_slice HO177.out; subst eo28) | ((with_reducible refine gate_callee (f := 44) rfl ?_); refine goesL_ (some 31) rfl rfl Try.func44 (by kernel_rfl) rfl #[.slice Ao25 t168.length co25, .slice Ao28 t175.length co28] rfl (by (try simp only [List.map_toArray, List.map_cons, List.map_nil]); first | done | rfl | (simp only [List.length_drop, List.length_take]; rfl)) ?_; (with_reducible refine (laws_eqFaultS.calls k _ _ t168 _ _ t175 true _ ?side1 ?side2 ?side3 ?side4 A14.out).mono ?_); (case side1 => repeat (first | exact (Kd.R_reads' HO170.out).2.2 | (with_reducible refine Kd.C_alloc ?_ _) | (with_reducible refine Kd.C_drewN ?_ _) | (with_reducible refine Kd.C_drew ?_))); (case side2 => exact (Kd.R_reads' HO170.out).2.1); (case side3 => repeat (first | exact (Kd.R_reads' HO177.out).2.2 | (with_reducible refine Kd.C_alloc ?_ _) | (with_reducible refine Kd.C_drewN ?_ _) | (with_reducible refine Kd.C_drew ?_))); (case side4 => exact (Kd.R_reads' HO177.out).2.1); rintro e w29 ⟨rfl, hb⟩; refine ⟨_, rfl, ?_⟩; have n0_ := Aside0.mk (Kd.R_below (by (with_reducible repeat (first | apply Kd.R_alloc | apply Kd.R_drewN | apply Kd.R_drew)); exact HO166.out) hb); have n1_ := Aside0.mk (Kd.R_below (by (with_reducible repeat (first | apply Kd.R_alloc | apply Kd.R_drewN | apply Kd.R_drew)); exact HO170.out) hb); have n2_ := Aside0.mk (Kd.R_below (by (with_reducible repeat (first | apply Kd.R_alloc | apply Kd.R_drewN | apply Kd.R_drew)); exact HO177.out) hb); have n3_ := Aside0.mk (blk_below (g := gb159) (o := .cells #[.int .i64 a0_0, .int .i64 a0_1, .int .i64 a0_2] 23 (0, 0)) (by (with_reducible repeat (first | refine blk_drewN ?_ _ | refine blk_drew ?_ | refine blk_alloc ?_ _)); exact BK159.out) hb); have n4_ := Aside0.mk (below_step (by repeat (first | (with_reducible first | exact HB.out | apply below_alloc | apply pw_below_drewN | apply below_drew1 | refine below_set ?_ GE159.out) | exact HB.out)) hb); clear HO166; clear HO170; clear HO177; clear BK159; clear HB; have HO166 := n0_; have HO170 := n1_; have HO177 := n2_; have BK159 := n3_; have HB := n4_; clear n0_ n1_ n2_ n3_ n4_; (try clear hb); (try clear hb2); (try clear hk); (try clear hi)))
        go_ret
        exact ⟨by first | rfl | (simp [errW_none, errW_some] <;> rfl) | (simp [*, errW_none, errW_some] <;> rfl), by repeat (first | (with_reducible first | exact HB.out | apply below_alloc | apply pw_below_drewN | apply below_drew1 | refine below_set ?_ GE159.out) | exact HB.out)⟩
      · replace c15 := Bool.eq_false_iff.mpr c15
        subst c15
        have H1 : (some false) = some r := by rw [if_neg (show ¬ (false = true) by decide)] at H; exact H
        clear H
        have H := H1
        clear H1
        obtain rfl := Option.some.inj H
        exact absurd hT_ (by decide)

-- what is known of the values that come in
/-- What is known of a value of struct type 104. -/
def wf104 (x : S104) : Prop := ((Lit.int .i64 x.f0).wf = true) ∧ ((Lit.int .i64 x.f1).wf = true) ∧ ((Lit.int .i64 x.f2).wf = true) ∧ ((Lit.int .i64 x.f3).wf = true)
/-- THE ONE PURE STATEMENT of laws_FnExactWithinEccBudget. -/
def laws_FnExactWithinEccBudget.Pure : Prop := ∀ (a0_0 : Int) (a0_1 : Int) (a0_2 : Int) (l1 : List (S104)), (Lit.int .i64 a0_0).wf = true → (Lit.int .i64 a0_1).wf = true → (Lit.int .i64 a0_2).wf = true → (l1.length ≤ maxLen ∧ ∀ x_ ∈ l1, wf104 x_) → ∃ k, laws_FnExactWithinEccBudget.f k a0_0 a0_1 a0_2 l1 = some true

end Go.Proofs.Ytchpgjhbmeokaaa.QFnExactWithinEccBudget
