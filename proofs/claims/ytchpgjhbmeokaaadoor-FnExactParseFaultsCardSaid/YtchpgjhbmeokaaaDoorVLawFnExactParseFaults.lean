/- The tied card of FnExactParseFaults holds: the program's ParseFaults returns what the reference's returns, for all arguments. Conditions: those of the given row alone. -/
-- Written by mp.py, a program of this session over the kit's print; the session answers for it, Lean checks it.
import Derived.Test.YtchpgjhbmeokaaaDoorRows
import Derived.Test.YtchpgjhbmeokaaaDoorVQFnExactParseFaultsx12
import Derived.Test.YtchpgjhbmeokaaaDoorVPureFnExactParseFaults
import Derived.Test.YtchpgjhbmeokaaaDoorVOpen
import Derived.WalkKit
import Derived.ProofKit
import Derived.OpenShut
import Derived.ShutString
import Derived.ChangeOld
import Derived.Below
import Derived.SizedLaws
import Derived.HandedShaped
import Derived.Shelf.Vars
import Derived.Lay
import Derived.LaidMore
import Derived.Stop.LaidErr
import Derived.Stop.Joined
import Derived.MakeChecks
import Derived.Lib.LaidTab
import Derived.SevenTiedAt
import Derived.Test.YtchpgjhbmeokaaaDoorCards
import Derived.Test.YtchpgjhbmeokaaaDoorTie
namespace Go.Proofs.YtchpgjhbmeokaaaDoor.fnExactParseFaults
open Go.ChangeShapes Go.WideShapes Go.ChangeAt Go.RowKit Go.Proofs.YtchpgjhbmeokaaaDoor.QFnExactParseFaults Go.Proofs.YtchpgjhbmeokaaaDoor.Open Go.Proofs.YtchpgjhbmeokaaaDoorW.PrintWords
open Go.ChangeMaps (open_string shut_string)
set_option linter.unusedVariables false
set_option linter.unusedSimpArgs false
theorem own : ownKnob Tryd.prog.godebug = none := by kernel_rfl
theorem laidOut : laidOutB Tryd.prog = true := by kernel_rfl
set_option maxRecDepth 100000
theorem pow_eq : (Rows.laid_internal_strconv_uint64pow10 : DataW Unit) = Lib.tabData .u64 Lib.pow10Tab := rfl
theorem gPow : Tryd.prog.globalNamed "internal/strconv.uint64pow10" = some 1 := by kernel_rfl
theorem of_tab {W : World} (h : laidMetH Tryd.prog Rows.fnExactParseFaultsRow.laid W) : Go.Proofs.YtchpgjhbmeokaaaDoor.Bld.Tab W := by
  rw [MakeChecks.laidMetH_plain _ _ _ (by kernel_rfl)] at h
  have h2 : laidMet Tryd.prog (("internal/strconv.uint64pow10", Lib.tabData .u64 Lib.pow10Tab) :: [("unicode/utf8.acceptRanges", Rows.laid_unicode_utf8_acceptRanges), ("strconv.ErrRange", Rows.laid_strconv_ErrRange), ("strconv.ErrSyntax", Rows.laid_strconv_ErrSyntax), ("unicode/utf8.first", Rows.laid_unicode_utf8_first)]) W := pow_eq ▸ (h.tail.tail)
  exact Lib.tabIs_of_head (g := 1) (t := 112) (e := 95) (n := 20) gPow (by kernel_rfl) Tryd.underlying112 Tryd.underlying95 (by kernel_rfl) (by kernel_rfl) h2
theorem trod_iface {H : Type} {enc : TypeId × Value → H} {P : Program} {w : World} {base : Nat} {sp : Nat → Bool} {held : Bool} (fuel : Nat) (t : TypeId) (cs : List Value) (nm : String) (d : DataW H) (p : List MemPlace) (h : DataW.trod enc P w base sp held fuel t cs = some (.iface nm d, p)) : ∃ u v, cs = [.iface u v] := by
  cases fuel with
  | zero => simp [DataW.trod] at h
  | succ n =>
    unfold DataW.trod at h
    split at h
    all_goals first
      | exact ⟨_, _, rfl⟩
      | (simp at h; done)
      | (simp [Option.map_eq_some_iff] at h; done)
      | (split at h <;> first | exact ⟨_, _, rfl⟩ | (simp at h; done) | (simp [Option.map_eq_some_iff] at h; done) | (split at h <;> simp at h; done) | skip)
      | skip
    all_goals (try dsimp only at h)
    all_goals first
      | (obtain ⟨_, _, e⟩ := Option.map_eq_some_iff.1 h; simp at e; done)
      | (obtain ⟨_, _, e⟩ := Option.bind_eq_some_iff.1 h; obtain ⟨_, _, e2⟩ := Option.map_eq_some_iff.1 e; simp at e2; done)
      | (rw [Option.ite_none_right_eq_some] at h; obtain ⟨_, h⟩ := h; obtain ⟨_, _, e⟩ := Option.bind_eq_some_iff.1 h; rw [Option.ite_none_right_eq_some] at e; simp at e; done)
      | skip
theorem var_of_laid {P : Program} {n nm : String} {d : DataW Unit} {r : List (String × DataW Unit)} {W : World} (h : laidMet P ((n, .iface nm d) :: r) W) : ∃ tp p, W.var? P n = some #[.iface tp p] := by
  obtain ⟨ps, ⟨g0, t0, cs0, f0, p0, q0, hg0, ht0, hv0, hd0, _, e0⟩, _, hrows⟩ := h
  obtain ⟨u, v, e⟩ := trod_iface _ _ _ _ _ _ hd0
  obtain ⟨l0⟩ := cs0
  simp only at e
  subst e
  exact ⟨u, v, hv0⟩
theorem of_syn {W : World} (h : laidMetH Tryd.prog Rows.fnExactParseFaultsRow.laid W) : ∃ tp p, W.var? Tryd.prog "strconv.ErrSyntax" = some #[.iface tp p] := by
  rw [MakeChecks.laidMetH_plain _ _ _ (by kernel_rfl)] at h
  have h2 : laidMet Tryd.prog (("strconv.ErrSyntax", Rows.laid_strconv_ErrSyntax) :: [("unicode/utf8.first", Rows.laid_unicode_utf8_first)]) W := h.tail.tail.tail.tail.tail
  exact var_of_laid (nm := "*errors.errorString") h2
theorem of_rng {W : World} (h : laidMetH Tryd.prog Rows.fnExactParseFaultsRow.laid W) : ∃ tp p, W.var? Tryd.prog "strconv.ErrRange" = some #[.iface tp p] := by
  rw [MakeChecks.laidMetH_plain _ _ _ (by kernel_rfl)] at h
  have h2 : laidMet Tryd.prog (("strconv.ErrRange", Rows.laid_strconv_ErrRange) :: [("strconv.ErrSyntax", Rows.laid_strconv_ErrSyntax), ("unicode/utf8.first", Rows.laid_unicode_utf8_first)]) W := h.tail.tail.tail.tail
  exact var_of_laid (nm := "*errors.errorString") h2
theorem of_laid {W : World} (h : laidMetH Tryd.prog Rows.fnExactParseFaultsRow.laid W) (hs : W.ShapedOpen Tryd.prog) : Go.Proofs.YtchpgjhbmeokaaaDoor.Bld.G0 W :=
  ⟨of_tab h, cell_of_shapedOpen_int (t := 3) (zero := #[.int .i64 0]) (k := .i64) hs (by decide +kernel) (by kernel_rfl) rfl (by kernel_rfl) (by kernel_rfl) Tryd.underlying3, of_syn h, of_rng h⟩
theorem and_shaped {H : Type} {enc : TypeId × Value → H} {a : Assume} {C : Checked} {os : Os} {f : FuncId} {fn : Func} {s : ChangeSpec} {conds : List PathCond} {apart fresh handsOn again : Bool} {X : World → Array Value → Prop}
    (hX : ∀ (w w' : World) (args : Array Value), w.heap = w'.heap → X w args → X w' args)
    (own : ownKnob C.prog.godebug = none) (started : os.Started) (noInit : C.prog.inits.idxOf? f = none) (hfn : C.prog.funcs[f]? = some fn)
    (witness : ∃ (w : World) (tape : Tape) (i : Input), w.os = os ∧ (w.forCall tape i).Shaped C.prog ∧ i.vars = [] ∧ Input.okWide C.prog (w.forCall tape i) .any w.heap.size f i ∧
      ((s.pre enc C.prog fn conds apart (w.forCall tape i).memory i.args ∧ X (w.forCall tape i).memory i.args) ∧ sizedMet enc C.prog fn (OpenSpec.ofChange s) apart (w.forCall tape i).memory i.args) ∧ a.holds C.prog (lone (Frame.enter C.prog f i.args .normal) [] (w.forCall tape i)))
    (contract : ∀ (W : World) (base : Nat) (args : Array Value) (ds gs : List (DataW H)) (before : List MemPlace),
      (∀ (j : Nat) t v, fn.params[j]? = some t → args[j]? = some v → Value.okWide C.prog W .any base t v) →
      DataW.Whole enc C.prog fn.params.toList s.vars apart W args.toList ds gs before →
      conds.all (PathCond.test C.prog ⟨fn.params.toList, ds, s.plain.varTypes C.prog, gs⟩) = true →
      (DataW.weightsEach C.prog (fn.params.toList ++ s.plain.varTypes C.prog) (ds ++ gs)).all (· ≤ reachBytes) = true → X W args → W.ShapedOpen C.prog →
      a.holds C.prog (lone (Frame.enter C.prog f args .normal) [] W) →
      Calls C.prog f args W fun e W' => ∃ v, e = .returned v ∧ s.post enc C.prog fn apart fresh handsOn again W args v W') :
    ReturnsInHanded a C os f .any (fun w args => (s.pre enc C.prog fn conds apart w args ∧ X w args) ∧ sizedMet enc C.prog fn (OpenSpec.ofChange s) apart w args) (s.post enc C.prog fn apart fresh handsOn again) := by
  refine returnsInHanded_of_calls own started noInit witness ?_
  intro w tape i _ hsh _ hok hpre hholds
  obtain ⟨_, _, _, fn', hfn', _, _, _, _, hval⟩ := hok
  have e : fn' = fn := Option.some.inj (hfn'.symm.trans hfn)
  subst e
  obtain ⟨⟨⟨ds, gs, before, hw, hc⟩, hx⟩, hz⟩ := hpre
  have hw' := DataW.Whole.of_heap (w' := w.forCall tape i) (by rfl) hw
  refine (contract (w.forCall tape i) w.heap.size i.args ds gs before hval hw' hc (hz.weights hw) (hX _ _ _ (by rfl) hx) hsh hholds).mono fun e W' ⟨v, he, hp⟩ => ?_
  subst he
  exact ChangeSpec.post_blind hp
set_option maxHeartbeats 2000000 in
set_option maxRecDepth 100000 in
theorem lifted (os : Os) (started : os.Started) (H : Type) (enc : TypeId × Value → H) :
    ReturnsInHanded {} Tryd.checked os 4 .any (fun w args => (Rows.fnExactParseFaultsSpec.pre enc Tryd.prog Tryd.f4 Rows.fnExactParseFaultsRow.domain false w args ∧ laidMetH Tryd.prog Rows.fnExactParseFaultsRow.laid w) ∧ sizedMet enc Tryd.prog Tryd.f4 (OpenSpec.ofChange Rows.fnExactParseFaultsSpec) false w args)
      (Rows.fnExactParseFaultsSpec.post enc Tryd.prog Tryd.f4 false true false false) := by
  refine and_shaped (C := Tryd.checked) (X := fun w _ => laidMetH Tryd.prog Rows.fnExactParseFaultsRow.laid w) (fun _ _ _ hh h => h.of_heap hh) own started (by kernel_rfl) Tryd.func4
    (ChangeSpec.witness_shaped (enc := enc) (C := Tryd.checked) (os := os) (X := fun w _ => laidMetH Tryd.prog Rows.fnExactParseFaultsRow.laid w) false (World.laidAll Tryd.prog os Rows.fnExactParseFaultsRow.laid) #[.agg #[.int .i64 0, .int .i64 0, .int .i64 0], .string ByteArray.empty] 8 (World.laidAll_os _ _ _)
      (World.shaped_of_ZipB (by kernel_rfl) (by kernel_rfl)) (by kernel_rfl) (by kernel_rfl) (by kernel_rfl)
      (by rw [MakeChecks.laidMetH_plain _ _ _ (by kernel_rfl)]; exact laidMet_laidAll _ (by kernel_rfl) (by kernel_rfl))) ?_
  intro W base args ds gs before hval0 hW hcnd hsz0 hL hSO _
  have hval : ∀ (j : Nat) t v, Tryd.f4.params[j]? = some t → args[j]? = some v → Value.okWide Tryd.prog W .any base t v := hval0
  have hW' := hW
  obtain ⟨p, q, hA0, hV, rfl, hfz, hnd⟩ := hW
  have hA : DataW.TrodAll enc Tryd.prog W 0 (fun _ => true) true Tryd.f4.params.toList args.toList ds p := hA0
  rw [Tryd.params4] at hA hval
  obtain ⟨v0, vs0, d0, ds0, p0, q0, hargs, rfl, rfl, h0, r0⟩ := trodAll_cons hA
  obtain ⟨v1, vs1, d1, ds1, p1, q1, rfl, rfl, rfl, h1, r1⟩ := trodAll_cons r0
  obtain ⟨rfl, rfl, rfl⟩ := trodAll_nil r1
  obtain rfl : args = #[v0, v1] := by cases args; simp_all
  obtain ⟨rfl, rfl⟩ := trodVars_none hV
  obtain ⟨cs0, rfl, hs0⟩ := okWide_struct Tryd.underlying23 (hval 0 23 v0 rfl rfl)
  have k0 := h0
  have lt0 : ∀ x ∈ p0, x.block < W.heap.size := by obtain ⟨m, hm⟩ := k0; exact DataW.trod_lt m _ _ _ hm
  obtain ⟨fuel0, hf0⟩ := h0
  obtain ⟨cl0⟩ := cs0
  have hz0_0 : cl0.length = 3 := hs0.trans (by kernel_rfl)
  obtain ⟨u0_0, t0_0, rfl, hz0_1⟩ := next_cell hz0_0
  obtain ⟨u0_1, t0_1, rfl, hz0_2⟩ := next_cell hz0_1
  obtain ⟨u0_2, t0_2, rfl, hz0_3⟩ := next_cell hz0_2
  obtain rfl := List.eq_nil_of_length_eq_zero hz0_3
  have g0 : DataW.trod enc Tryd.prog W 0 (fun _ => true) true fuel0 23 [u0_0, u0_1, u0_2] = _ := hf0
  obtain ⟨n0s, F0s⟩ := fields_of Tryd.underlying23 g0
  obtain ⟨y0s_f0, hy0s_f0⟩ := F0s 0 _ rfl
  have cz0s_f0 : Tryd.prog.cellsOf 2 = 1 := by kernel_rfl
  replace hy0s_f0 : DataW.trod enc Tryd.prog W 0 (fun _ => true) true n0s 2 (List.take (Tryd.prog.cellsOf 2) (List.drop 0 [u0_0, u0_1, u0_2])) = _ := hy0s_f0
  rw [cz0s_f0] at hy0s_f0
  replace hy0s_f0 : DataW.trod enc Tryd.prog W 0 (fun _ => true) true n0s 2 [u0_0] = _ := hy0s_f0
  obtain ⟨y0s_f1, hy0s_f1⟩ := F0s 1 _ rfl
  have cz0s_f1 : Tryd.prog.cellsOf 2 = 1 := by kernel_rfl
  replace hy0s_f1 : DataW.trod enc Tryd.prog W 0 (fun _ => true) true n0s 2 (List.take (Tryd.prog.cellsOf 2) (List.drop 1 [u0_0, u0_1, u0_2])) = _ := hy0s_f1
  rw [cz0s_f1] at hy0s_f1
  replace hy0s_f1 : DataW.trod enc Tryd.prog W 0 (fun _ => true) true n0s 2 [u0_1] = _ := hy0s_f1
  obtain ⟨y0s_f2, hy0s_f2⟩ := F0s 2 _ rfl
  have cz0s_f2 : Tryd.prog.cellsOf 2 = 1 := by kernel_rfl
  replace hy0s_f2 : DataW.trod enc Tryd.prog W 0 (fun _ => true) true n0s 2 (List.take (Tryd.prog.cellsOf 2) (List.drop 2 [u0_0, u0_1, u0_2])) = _ := hy0s_f2
  rw [cz0s_f2] at hy0s_f2
  replace hy0s_f2 : DataW.trod enc Tryd.prog W 0 (fun _ => true) true n0s 2 [u0_2] = _ := hy0s_f2
  obtain ⟨a0_0, K0_0, Q0_0⟩ := (op_int Tryd.underlying2) _ _ _ _ _ _ _ hy0s_f0
  obtain rfl := (List.cons.inj K0_0).1
  obtain ⟨a0_1, K0_1, Q0_1⟩ := (op_int Tryd.underlying2) _ _ _ _ _ _ _ hy0s_f1
  obtain rfl := (List.cons.inj K0_1).1
  obtain ⟨a0_2, K0_2, Q0_2⟩ := (op_int Tryd.underlying2) _ _ _ _ _ _ _ hy0s_f2
  obtain rfl := (List.cons.inj K0_2).1
  obtain ⟨a1, rfl, rfl, rfl, Q1⟩ := open_string Tryd.underlying9 (hval 1 9 v1 rfl rfl) h1
  clear hA0 hval0 hsz0
  have facts := of_laid hL hSO
  obtain ⟨k, hp⟩ := Pure.FnExactParseFaults a0_0 a0_1 a0_2 a1 Q0_0 Q0_1 Q0_2 Q1
  refine (laws_FnExactParseFaults.calls k a0_0 a0_1 a0_2 a1 true W facts rfl hp).mono ?_
  rintro e W' ⟨rfl, hd⟩
  have bel : Below W.heap.size W W' := by first | exact hd | exact hd.below
  exact ⟨_, rfl, _, _, _, [], _, [], hW', trodAll_mk1 (shut_bool Tryd.underlying4 _), (trodAll_cons_mk (Below.trod laidOut (by kernel_rfl) (of_decide_eq_true (by kernel_rfl)) k0 bel lt0) (trodAll_cons_mk (shut_string Tryd.underlying9 Q1) trodAll_mk0)), rfl, bel.frame _, fun h => by cases h⟩
theorem over : Rows.fnExactParseFaultsRow.holds Tryd.pinned (OpenSpec.ofChange Rows.fnExactParseFaultsSpec) :=
  OpenClaim.holds_of_wide 4 Tryd.f4 rfl rfl rfl rfl rfl rfl rfl ⟨rfl, rfl, rfl, rfl, rfl⟩ rfl rfl rfl rfl rfl (by kernel_rfl) Tryd.func4 (by kernel_rfl)
    (of_decide_eq_true (by kernel_rfl)) (by unfold Func.isWrapper; first | (rw [if_pos (by decide +kernel)]; kernel_rfl) | (rw [if_neg (by decide +kernel)]; exact ⟨rfl, rfl⟩))
    (fun os started H enc _ => lifted os started H enc)
theorem card : Rows.FnExactParseFaultsCardSaid :=
  Claim7.holds_tied_plain_at .later [] [.data, .data, .data, .data, .sentinel, .sentinel, .pinned] true (true, "f43d764ceb3ee02da8ee2d33e4af8ba108d8e6ce40da64ea473611ccfc622e23") true
    over (fun _ h => by cases h) (by kernel_rfl) (fun _ h => by cases h) fnExactParseFaults_row_tie rfl ⟨rfl, rfl⟩ (by kernel_rfl) rfl
    (fun f fn hf hfn => by
      obtain rfl : f = 4 := Option.some.inj ((show Tryd.prog.funcNamed "loop.example/g00905/laws.FnExactParseFaults" = some 4 by kernel_rfl).symm.trans hf) |>.symm
      obtain rfl : fn = Tryd.f4 := (Option.some.inj (Tryd.func4.symm.trans hfn)).symm
      exact ⟨by kernel_rfl, fun j t ht => by
        rw [Tryd.params4] at ht
        have hm : t ∈ [23, 9] := by simpa using Array.mem_of_getElem? ht
        have hall : ([23, 9].all fun u => !Tryd.prog.wantsStandIn u) = true := by kernel_rfl
        exact (show Tryd.prog.wantsStandIn t = false by simpa using List.all_eq_true.1 hall t hm)⟩)
    (by kernel_rfl)
theorem proved : Rows.FnExactParseFaultsCardSaid := card
#print axioms proved
end Go.Proofs.YtchpgjhbmeokaaaDoor.fnExactParseFaults
namespace Go.Proofs.YtchpgjhbmeokaaaDoor
/-- The row, under a short name, for the claim. -/
theorem fnExactParseFaults_holds : Rows.FnExactParseFaultsCardSaid := fnExactParseFaults.proved
end Go.Proofs.YtchpgjhbmeokaaaDoor
