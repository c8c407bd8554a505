-- Written by mp.py, a program of this session over the kit's print; the session answers for it, Lean checks it.
import Derived.Test.YtchpgjhbmeokaaaDoorRows
import Derived.Test.YtchpgjhbmeokaaaDoorQFnExactFormatFaultsx6
import Derived.Test.YtchpgjhbmeokaaaDoorPureFnExactFormatFaults
import Derived.Test.YtchpgjhbmeokaaaDoorOpen
import Derived.WalkKit
import Derived.ProofKit
import Derived.OpenShut
import Derived.ShutString
import Derived.ChangeOld
import Derived.Below
import Derived.SizedLaws
import Derived.LaidMore
import Derived.Stop.LaidErr
import Derived.Stop.Joined
import Derived.MakeChecks
import Derived.Lib.LaidTab
import Derived.SevenTiedAt
import Derived.Test.YtchpgjhbmeokaaaDoorCards
import Derived.Test.YtchpgjhbmeokaaaDoorTie
namespace Go.Proofs.YtchpgjhbmeokaaaDoor.fnExactFormatFaults
open Go.ChangeShapes Go.WideShapes Go.ChangeAt Go.RowKit Go.Proofs.YtchpgjhbmeokaaaDoor.QFnExactFormatFaults Go.Proofs.YtchpgjhbmeokaaaDoor.Open Go.Proofs.YtchpgjhbmeokaaaDoorW.PrintWords
open Go.ChangeMaps (open_string shut_string)
set_option linter.unusedVariables false
set_option linter.unusedSimpArgs false
theorem own : ownKnob Tryd.prog.godebug = none := by kernel_rfl
theorem laidOut : laidOutB Tryd.prog = true := by kernel_rfl
theorem op42 : Tells Tryd.prog k42 42 wf42 :=
  (op_struct (g := fun a => (⟨a.1, a.2.1, a.2.2.1, a.2.2.2⟩ : S42)) (fun _ => rfl) Tryd.underlying42 (by kernel_rfl) (opl_cons (op_int Tryd.underlying2) rfl (by kernel_rfl) (by kernel_rfl) (opl_cons (op_int Tryd.underlying2) rfl (by kernel_rfl) (by kernel_rfl) (opl_cons (op_int Tryd.underlying2) rfl (by kernel_rfl) (by kernel_rfl) (opl_one (op_int Tryd.underlying2) rfl (by kernel_rfl)))))).imp (fun _ h => h)
set_option maxRecDepth 100000
theorem door_met (os : Os) (args : Array Value) : laidMetH Tryd.prog Rows.fnExactFormatFaultsRow.laid ((World.doorLaid Tryd.prog 72 os).forCall (fun _ _ => 0) ⟨#[], args, []⟩).memory :=
  laidMetH_of_parts3 (fuel := 8) (laidMet_of_run' 8 (by kernel_rfl) (by kernel_rfl)) (by kernel_rfl) (by kernel_rfl)
theorem pow_eq : (Rows.laid_internal_strconv_uint64pow10 : DataW Unit) = Lib.tabData .u64 Lib.pow10Tab := rfl
theorem gPow : Tryd.prog.globalNamed "internal/strconv.uint64pow10" = some 1 := by kernel_rfl
theorem of_laid {W : World} (h : laidMetH Tryd.prog Rows.fnExactFormatFaultsRow.laid W) : Go.Proofs.YtchpgjhbmeokaaaDoor.Bld.Tab W := by
  rw [MakeChecks.laidMetH_plain _ _ _ (by kernel_rfl)] at h
  have h2 : laidMet Tryd.prog (("internal/strconv.uint64pow10", Lib.tabData .u64 Lib.pow10Tab) :: []) W := pow_eq ▸ (h.tail.tail)
  exact Lib.tabIs_of_head (g := 1) (t := 112) (e := 95) (n := 20) gPow (by kernel_rfl) Tryd.underlying112 Tryd.underlying95 (by kernel_rfl) (by kernel_rfl) h2
set_option maxHeartbeats 2000000 in
set_option maxRecDepth 100000 in
theorem lifted (os : Os) (started : os.Started) (H : Type) (enc : TypeId × Value → H) :
    ReturnsInHanded {} Tryd.checked os 3 .any (fun w args => (Rows.fnExactFormatFaultsSpec.pre enc Tryd.prog Tryd.f3 Rows.fnExactFormatFaultsRow.domain false w args ∧ laidMetH Tryd.prog Rows.fnExactFormatFaultsRow.laid w) ∧ sizedMet enc Tryd.prog Tryd.f3 (OpenSpec.ofChange Rows.fnExactFormatFaultsSpec) false w args)
      (Rows.fnExactFormatFaultsSpec.post enc Tryd.prog Tryd.f3 false true false false) := by
  refine returnsInHanded_of_change_and (C := Tryd.checked) (X := fun w _ => laidMetH Tryd.prog Rows.fnExactFormatFaultsRow.laid w) (fun _ _ _ hh h => h.of_heap hh) own started (by kernel_rfl) Tryd.func3
    (ChangeSpec.witness_shaped (enc := enc) (C := Tryd.checked) (os := os) (X := fun w _ => laidMetH Tryd.prog Rows.fnExactFormatFaultsRow.laid w) false (World.doorLaid Tryd.prog 72 os) #[.agg #[.int .i64 0, .int .i64 0, .int .i64 0], .slice none 0 0] 8 rfl (World.shaped_of_RefB (by kernel_rfl) (by kernel_rfl)) (by kernel_rfl) (by kernel_rfl) (by kernel_rfl) (door_met os _)) ?_
  intro W base args ds gs before hval0 hW hcnd hsz0 hL _
  have hval : ∀ (j : Nat) t v, Tryd.f3.params[j]? = some t → args[j]? = some v → Value.okWide Tryd.prog W .any base t v := hval0
  have hW' := hW
  obtain ⟨p, q, hA0, hV, rfl, hfz, hnd⟩ := hW
  have hA : DataW.TrodAll enc Tryd.prog W 0 (fun _ => true) true Tryd.f3.params.toList args.toList ds p := hA0
  rw [Tryd.params3] at hA hval
  obtain ⟨v0, vs0, d0, ds0, p0, q0, hargs, rfl, rfl, h0, r0⟩ := trodAll_cons hA
  obtain ⟨v1, vs1, d1, ds1, p1, q1, rfl, rfl, rfl, h1, r1⟩ := trodAll_cons r0
  obtain ⟨rfl, rfl, rfl⟩ := trodAll_nil r1
  obtain rfl : args = #[v0, v1] := by cases args; simp_all
  obtain ⟨rfl, rfl⟩ := trodVars_none hV
  obtain ⟨cs0, rfl, hs0⟩ := okWide_struct Tryd.underlying23 (hval 0 23 v0 rfl rfl)
  have k0 := h0
  have lt0 : ∀ x ∈ p0, x.block < W.heap.size := by obtain ⟨m, hm⟩ := k0; exact DataW.trod_lt m _ _ _ hm
  obtain ⟨fuel0, hf0⟩ := h0
  obtain ⟨cl0⟩ := cs0
  have hz0_0 : cl0.length = 3 := hs0.trans (by kernel_rfl)
  obtain ⟨u0_0, t0_0, rfl, hz0_1⟩ := next_cell hz0_0
  obtain ⟨u0_1, t0_1, rfl, hz0_2⟩ := next_cell hz0_1
  obtain ⟨u0_2, t0_2, rfl, hz0_3⟩ := next_cell hz0_2
  obtain rfl := List.eq_nil_of_length_eq_zero hz0_3
  have g0 : DataW.trod enc Tryd.prog W 0 (fun _ => true) true fuel0 23 [u0_0, u0_1, u0_2] = _ := hf0
  obtain ⟨n0s, F0s⟩ := fields_of Tryd.underlying23 g0
  obtain ⟨y0s_f0, hy0s_f0⟩ := F0s 0 _ rfl
  have cz0s_f0 : Tryd.prog.cellsOf 2 = 1 := by kernel_rfl
  replace hy0s_f0 : DataW.trod enc Tryd.prog W 0 (fun _ => true) true n0s 2 (List.take (Tryd.prog.cellsOf 2) (List.drop 0 [u0_0, u0_1, u0_2])) = _ := hy0s_f0
  rw [cz0s_f0] at hy0s_f0
  replace hy0s_f0 : DataW.trod enc Tryd.prog W 0 (fun _ => true) true n0s 2 [u0_0] = _ := hy0s_f0
  obtain ⟨y0s_f1, hy0s_f1⟩ := F0s 1 _ rfl
  have cz0s_f1 : Tryd.prog.cellsOf 2 = 1 := by kernel_rfl
  replace hy0s_f1 : DataW.trod enc Tryd.prog W 0 (fun _ => true) true n0s 2 (List.take (Tryd.prog.cellsOf 2) (List.drop 1 [u0_0, u0_1, u0_2])) = _ := hy0s_f1
  rw [cz0s_f1] at hy0s_f1
  replace hy0s_f1 : DataW.trod enc Tryd.prog W 0 (fun _ => true) true n0s 2 [u0_1] = _ := hy0s_f1
  obtain ⟨y0s_f2, hy0s_f2⟩ := F0s 2 _ rfl
  have cz0s_f2 : Tryd.prog.cellsOf 2 = 1 := by kernel_rfl
  replace hy0s_f2 : DataW.trod enc Tryd.prog W 0 (fun _ => true) true n0s 2 (List.take (Tryd.prog.cellsOf 2) (List.drop 2 [u0_0, u0_1, u0_2])) = _ := hy0s_f2
  rw [cz0s_f2] at hy0s_f2
  replace hy0s_f2 : DataW.trod enc Tryd.prog W 0 (fun _ => true) true n0s 2 [u0_2] = _ := hy0s_f2
  obtain ⟨a0_0, K0_0, Q0_0⟩ := (op_int Tryd.underlying2) _ _ _ _ _ _ _ hy0s_f0
  obtain rfl := (List.cons.inj K0_0).1
  obtain ⟨a0_1, K0_1, Q0_1⟩ := (op_int Tryd.underlying2) _ _ _ _ _ _ _ hy0s_f1
  obtain rfl := (List.cons.inj K0_1).1
  obtain ⟨a0_2, K0_2, Q0_2⟩ := (op_int Tryd.underlying2) _ _ _ _ _ _ _ hy0s_f2
  obtain rfl := (List.cons.inj K0_2).1
  obtain ⟨a1, len1, cap1, rfl⟩ := okWide_slice Tryd.underlying24 (hval 1 24 v1 rfl rfl)
  have k1 := h1
  have lt1 : ∀ x ∈ p1, x.block < W.heap.size := by obtain ⟨m, hm⟩ := k1; exact DataW.trod_lt m _ _ _ hm
  obtain ⟨fuel1, hf1⟩ := h1
  have g1 : DataW.trod enc Tryd.prog W 0 (fun _ => true) true fuel1 24 [.slice a1 len1 cap1] = _ := hf1
  obtain ⟨l1, K1, Q1⟩ := (op_slice (e := 42) Tryd.underlying24 (by kernel_rfl) op42) _ _ _ _ _ _ _ g1
  obtain ⟨A1, c1, e1, hc1, hr1⟩ := K1
  obtain ⟨rfl, rfl, rfl⟩ := Value.slice.inj (List.cons.inj e1).1
  clear hA0 hval0 hsz0
  have facts := of_laid hL
  obtain ⟨k, hp⟩ := Pure.FnExactFormatFaults a0_0 a0_1 a0_2 l1 Q0_0 Q0_1 Q0_2 Q1
  refine (laws_FnExactFormatFaults.calls k a0_0 a0_1 a0_2 _ _ l1 true W hr1 hc1 facts rfl hp).mono ?_
  rintro e W' ⟨rfl, hd⟩
  have bel : Below W.heap.size W W' := by first | exact hd | exact hd.below
  exact ⟨_, rfl, _, _, _, [], _, [], hW', trodAll_mk1 (shut_bool Tryd.underlying4 _), (trodAll_cons_mk (Below.trod laidOut (by kernel_rfl) (of_decide_eq_true (by kernel_rfl)) k0 bel lt0) (trodAll_cons_mk (Below.trod laidOut (by kernel_rfl) (of_decide_eq_true (by kernel_rfl)) k1 bel lt1) trodAll_mk0)), rfl, bel.frame _, fun h => by cases h⟩
theorem over : Rows.fnExactFormatFaultsRow.holds Tryd.pinned (OpenSpec.ofChange Rows.fnExactFormatFaultsSpec) :=
  OpenClaim.holds_of_wide 3 Tryd.f3 rfl rfl rfl rfl rfl rfl rfl ⟨rfl, rfl, rfl, rfl, rfl⟩ rfl rfl rfl rfl rfl (by kernel_rfl) Tryd.func3 (by kernel_rfl)
    (of_decide_eq_true (by kernel_rfl)) (by unfold Func.isWrapper; first | (rw [if_pos (by decide +kernel)]; kernel_rfl) | (rw [if_neg (by decide +kernel)]; exact ⟨rfl, rfl⟩))
    (fun os started H enc _ => lifted os started H enc)
theorem card : Rows.FnExactFormatFaultsCardSaid :=
  Claim7.holds_tied_plain_at .later [] [.data, .data, .data] true (true, "f43d764ceb3ee02da8ee2d33e4af8ba108d8e6ce40da64ea473611ccfc622e23") true
    over (fun _ h => by cases h) (by kernel_rfl) (fun _ h => by cases h) fnExactFormatFaults_row_tie rfl ⟨rfl, rfl⟩ (by kernel_rfl) rfl
    (fun f fn hf hfn => by
      obtain rfl : f = 3 := Option.some.inj ((show Tryd.prog.funcNamed "loop.example/g00905/laws.FnExactFormatFaults" = some 3 by kernel_rfl).symm.trans hf) |>.symm
      obtain rfl : fn = Tryd.f3 := (Option.some.inj (Tryd.func3.symm.trans hfn)).symm
      exact ⟨by kernel_rfl, fun j t ht => by
        rw [Tryd.params3] at ht
        have hm : t ∈ [23, 24] := by simpa using Array.mem_of_getElem? ht
        have hall : ([23, 24].all fun u => !Tryd.prog.wantsStandIn u) = true := by kernel_rfl
        exact (show Tryd.prog.wantsStandIn t = false by simpa using List.all_eq_true.1 hall t hm)⟩)
    (by kernel_rfl)
theorem proved : Rows.FnExactFormatFaultsCardSaid := card
#print axioms proved
end Go.Proofs.YtchpgjhbmeokaaaDoor.fnExactFormatFaults
namespace Go.Proofs.YtchpgjhbmeokaaaDoor
/-- The row, under a short name, for the claim. -/
theorem fnExactFormatFaults_holds : Rows.FnExactFormatFaultsCardSaid := fnExactFormatFaults.proved
end Go.Proofs.YtchpgjhbmeokaaaDoor
