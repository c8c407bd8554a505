-- Written by mp.py, a program of this session over the kit's print; the session answers for it, Lean checks it.
import Derived.Test.YtchpgjhbmeokaaaRows
import Derived.Test.YtchpgjhbmeokaaaVQFnExactScanBadBlocksx9
import Derived.Test.YtchpgjhbmeokaaaVPureFnExactScanBadBlocks
import Derived.Test.YtchpgjhbmeokaaaVOpen
import Derived.WalkKit
import Derived.ProofKit
import Derived.OpenShut
import Derived.ShutString
import Derived.ChangeOld
import Derived.Below
import Derived.SizedLaws
namespace Go.Proofs.Ytchpgjhbmeokaaa.fnExactScanBadBlocks
open Go.ChangeShapes Go.WideShapes Go.ChangeAt Go.RowKit Go.Proofs.Ytchpgjhbmeokaaa.QFnExactScanBadBlocks Go.Proofs.Ytchpgjhbmeokaaa.Open Go.Proofs.YtchpgjhbmeokaaaW.PrintWords
open Go.ChangeMaps (open_string shut_string)
set_option linter.unusedVariables false
set_option linter.unusedSimpArgs false
theorem own : ownKnob Try.prog.godebug = none := by kernel_rfl
theorem laidOut : laidOutB Try.prog = true := by kernel_rfl
theorem op113 : Tells Try.prog k113 113 wf113 :=
  (op_struct (g := fun a => (⟨a.1, a.2.1, a.2.2.1, a.2.2.2⟩ : S113)) (fun _ => rfl) Try.underlying113 (by kernel_rfl) (opl_cons (op_int Try.underlying2) rfl (by kernel_rfl) (by kernel_rfl) (opl_cons (op_int Try.underlying2) rfl (by kernel_rfl) (by kernel_rfl) (opl_cons (op_bool Try.underlying4) rfl (by kernel_rfl) (by kernel_rfl) (opl_one (op_slice (e := 9) Try.underlying89 (by kernel_rfl) (op_string Try.underlying9)) rfl (by kernel_rfl)))))).imp (fun _ h => h)
set_option maxHeartbeats 2000000 in
set_option maxRecDepth 100000 in
theorem lifted (os : Os) (started : os.Started) (H : Type) (enc : TypeId × Value → H) :
    ReturnsInHanded {} Try.checked os 8 .any (Rows.fnExactScanBadBlocksSpec.pre6 enc Try.prog Try.f8 Rows.fnExactScanBadBlocksRow.domain false) (Rows.fnExactScanBadBlocksSpec.post enc Try.prog Try.f8 false true false false) := by
  refine returnsInHanded_of_change_sized (C := Try.checked) own started (by kernel_rfl) Try.func8
    (ChangeSpec.witness6 (enc := enc) (C := Try.checked) false ⟨#[], #[.agg #[.int .i64 0, .int .i64 0, .int .i64 0, .slice none 0 0, .int .i64 0, .int .i64 0, .bool false, .int .i64 0], .int .i64 0], []⟩ 8 (by kernel_rfl) (by kernel_rfl) (by kernel_rfl) (by kernel_rfl)) ?_
  intro W base args ds gs before hval0 hW hcnd hsz0 _
  have hval : ∀ (j : Nat) t v, Try.f8.params[j]? = some t → args[j]? = some v → Value.okWide Try.prog W .any base t v := hval0
  have hW' := hW
  obtain ⟨p, q, hA0, hV, rfl, hfz, hnd⟩ := hW
  have hA : DataW.TrodAll enc Try.prog W 0 (fun _ => true) true Try.f8.params.toList args.toList ds p := hA0
  rw [Try.params8] at hA hval
  obtain ⟨v0, vs0, d0, ds0, p0, q0, hargs, rfl, rfl, h0, r0⟩ := trodAll_cons hA
  obtain ⟨v1, vs1, d1, ds1, p1, q1, rfl, rfl, rfl, h1, r1⟩ := trodAll_cons r0
  obtain ⟨rfl, rfl, rfl⟩ := trodAll_nil r1
  obtain rfl : args = #[v0, v1] := by cases args; simp_all
  obtain ⟨rfl, rfl⟩ := trodVars_none hV
  obtain ⟨cs0, rfl, hs0⟩ := okWide_struct Try.underlying48 (hval 0 48 v0 rfl rfl)
  have k0 := h0
  have lt0 : ∀ x ∈ p0, x.block < W.heap.size := by obtain ⟨m, hm⟩ := k0; exact DataW.trod_lt m _ _ _ hm
  obtain ⟨fuel0, hf0⟩ := h0
  obtain ⟨cl0⟩ := cs0
  have hz0_0 : cl0.length = 8 := hs0.trans (by kernel_rfl)
  obtain ⟨u0_0, t0_0, rfl, hz0_1⟩ := next_cell hz0_0
  obtain ⟨u0_1, t0_1, rfl, hz0_2⟩ := next_cell hz0_1
  obtain ⟨u0_2, t0_2, rfl, hz0_3⟩ := next_cell hz0_2
  obtain ⟨u0_3, t0_3, rfl, hz0_4⟩ := next_cell hz0_3
  obtain ⟨u0_4, t0_4, rfl, hz0_5⟩ := next_cell hz0_4
  obtain ⟨u0_5, t0_5, rfl, hz0_6⟩ := next_cell hz0_5
  obtain ⟨u0_6, t0_6, rfl, hz0_7⟩ := next_cell hz0_6
  obtain ⟨u0_7, t0_7, rfl, hz0_8⟩ := next_cell hz0_7
  obtain rfl := List.eq_nil_of_length_eq_zero hz0_8
  have g0 : DataW.trod enc Try.prog W 0 (fun _ => true) true fuel0 48 [u0_0, u0_1, u0_2, u0_3, u0_4, u0_5, u0_6, u0_7] = _ := hf0
  obtain ⟨n0s, F0s⟩ := fields_of Try.underlying48 g0
  obtain ⟨y0s_f0, hy0s_f0⟩ := F0s 0 _ rfl
  have cz0s_f0 : Try.prog.cellsOf 23 = 3 := by kernel_rfl
  replace hy0s_f0 : DataW.trod enc Try.prog W 0 (fun _ => true) true n0s 23 (List.take (Try.prog.cellsOf 23) (List.drop 0 [u0_0, u0_1, u0_2, u0_3, u0_4, u0_5, u0_6, u0_7])) = _ := hy0s_f0
  rw [cz0s_f0] at hy0s_f0
  replace hy0s_f0 : DataW.trod enc Try.prog W 0 (fun _ => true) true n0s 23 [u0_0, u0_1, u0_2] = _ := hy0s_f0
  obtain ⟨n0s_f0, F0s_f0⟩ := fields_of Try.underlying23 hy0s_f0
  obtain ⟨y0s_f0_f0, hy0s_f0_f0⟩ := F0s_f0 0 _ rfl
  have cz0s_f0_f0 : Try.prog.cellsOf 2 = 1 := by kernel_rfl
  replace hy0s_f0_f0 : DataW.trod enc Try.prog W 0 (fun _ => true) true n0s_f0 2 (List.take (Try.prog.cellsOf 2) (List.drop 0 [u0_0, u0_1, u0_2])) = _ := hy0s_f0_f0
  rw [cz0s_f0_f0] at hy0s_f0_f0
  replace hy0s_f0_f0 : DataW.trod enc Try.prog W 0 (fun _ => true) true n0s_f0 2 [u0_0] = _ := hy0s_f0_f0
  obtain ⟨y0s_f0_f1, hy0s_f0_f1⟩ := F0s_f0 1 _ rfl
  have cz0s_f0_f1 : Try.prog.cellsOf 2 = 1 := by kernel_rfl
  replace hy0s_f0_f1 : DataW.trod enc Try.prog W 0 (fun _ => true) true n0s_f0 2 (List.take (Try.prog.cellsOf 2) (List.drop 1 [u0_0, u0_1, u0_2])) = _ := hy0s_f0_f1
  rw [cz0s_f0_f1] at hy0s_f0_f1
  replace hy0s_f0_f1 : DataW.trod enc Try.prog W 0 (fun _ => true) true n0s_f0 2 [u0_1] = _ := hy0s_f0_f1
  obtain ⟨y0s_f0_f2, hy0s_f0_f2⟩ := F0s_f0 2 _ rfl
  have cz0s_f0_f2 : Try.prog.cellsOf 2 = 1 := by kernel_rfl
  replace hy0s_f0_f2 : DataW.trod enc Try.prog W 0 (fun _ => true) true n0s_f0 2 (List.take (Try.prog.cellsOf 2) (List.drop 2 [u0_0, u0_1, u0_2])) = _ := hy0s_f0_f2
  rw [cz0s_f0_f2] at hy0s_f0_f2
  replace hy0s_f0_f2 : DataW.trod enc Try.prog W 0 (fun _ => true) true n0s_f0 2 [u0_2] = _ := hy0s_f0_f2
  obtain ⟨y0s_f1, hy0s_f1⟩ := F0s 1 _ rfl
  have cz0s_f1 : Try.prog.cellsOf 46 = 1 := by kernel_rfl
  replace hy0s_f1 : DataW.trod enc Try.prog W 0 (fun _ => true) true n0s 46 (List.take (Try.prog.cellsOf 46) (List.drop 3 [u0_0, u0_1, u0_2, u0_3, u0_4, u0_5, u0_6, u0_7])) = _ := hy0s_f1
  rw [cz0s_f1] at hy0s_f1
  replace hy0s_f1 : DataW.trod enc Try.prog W 0 (fun _ => true) true n0s 46 [u0_3] = _ := hy0s_f1
  obtain ⟨y0s_f2, hy0s_f2⟩ := F0s 2 _ rfl
  have cz0s_f2 : Try.prog.cellsOf 2 = 1 := by kernel_rfl
  replace hy0s_f2 : DataW.trod enc Try.prog W 0 (fun _ => true) true n0s 2 (List.take (Try.prog.cellsOf 2) (List.drop 4 [u0_0, u0_1, u0_2, u0_3, u0_4, u0_5, u0_6, u0_7])) = _ := hy0s_f2
  rw [cz0s_f2] at hy0s_f2
  replace hy0s_f2 : DataW.trod enc Try.prog W 0 (fun _ => true) true n0s 2 [u0_4] = _ := hy0s_f2
  obtain ⟨y0s_f3, hy0s_f3⟩ := F0s 3 _ rfl
  have cz0s_f3 : Try.prog.cellsOf 2 = 1 := by kernel_rfl
  replace hy0s_f3 : DataW.trod enc Try.prog W 0 (fun _ => true) true n0s 2 (List.take (Try.prog.cellsOf 2) (List.drop 5 [u0_0, u0_1, u0_2, u0_3, u0_4, u0_5, u0_6, u0_7])) = _ := hy0s_f3
  rw [cz0s_f3] at hy0s_f3
  replace hy0s_f3 : DataW.trod enc Try.prog W 0 (fun _ => true) true n0s 2 [u0_5] = _ := hy0s_f3
  obtain ⟨y0s_f4, hy0s_f4⟩ := F0s 4 _ rfl
  have cz0s_f4 : Try.prog.cellsOf 4 = 1 := by kernel_rfl
  replace hy0s_f4 : DataW.trod enc Try.prog W 0 (fun _ => true) true n0s 4 (List.take (Try.prog.cellsOf 4) (List.drop 6 [u0_0, u0_1, u0_2, u0_3, u0_4, u0_5, u0_6, u0_7])) = _ := hy0s_f4
  rw [cz0s_f4] at hy0s_f4
  replace hy0s_f4 : DataW.trod enc Try.prog W 0 (fun _ => true) true n0s 4 [u0_6] = _ := hy0s_f4
  obtain ⟨y0s_f5, hy0s_f5⟩ := F0s 5 _ rfl
  have cz0s_f5 : Try.prog.cellsOf 2 = 1 := by kernel_rfl
  replace hy0s_f5 : DataW.trod enc Try.prog W 0 (fun _ => true) true n0s 2 (List.take (Try.prog.cellsOf 2) (List.drop 7 [u0_0, u0_1, u0_2, u0_3, u0_4, u0_5, u0_6, u0_7])) = _ := hy0s_f5
  rw [cz0s_f5] at hy0s_f5
  replace hy0s_f5 : DataW.trod enc Try.prog W 0 (fun _ => true) true n0s 2 [u0_7] = _ := hy0s_f5
  obtain ⟨a0_0, K0_0, Q0_0⟩ := (op_int Try.underlying2) _ _ _ _ _ _ _ hy0s_f0_f0
  obtain rfl := (List.cons.inj K0_0).1
  obtain ⟨a0_1, K0_1, Q0_1⟩ := (op_int Try.underlying2) _ _ _ _ _ _ _ hy0s_f0_f1
  obtain rfl := (List.cons.inj K0_1).1
  obtain ⟨a0_2, K0_2, Q0_2⟩ := (op_int Try.underlying2) _ _ _ _ _ _ _ hy0s_f0_f2
  obtain rfl := (List.cons.inj K0_2).1
  obtain ⟨l0_3, K0_3, Q0_3⟩ := (op_slice (e := 113) Try.underlying46 (by kernel_rfl) op113) _ _ _ _ _ _ _ hy0s_f1
  obtain ⟨A0_3, c0_3, e0_3, hc0_3, hr0_3⟩ := K0_3
  obtain rfl := (List.cons.inj e0_3).1
  obtain ⟨a0_4, K0_4, Q0_4⟩ := (op_int Try.underlying2) _ _ _ _ _ _ _ hy0s_f2
  obtain rfl := (List.cons.inj K0_4).1
  obtain ⟨a0_5, K0_5, Q0_5⟩ := (op_int Try.underlying2) _ _ _ _ _ _ _ hy0s_f3
  obtain rfl := (List.cons.inj K0_5).1
  obtain ⟨a0_6, K0_6, Q0_6⟩ := (op_bool Try.underlying4) _ _ _ _ _ _ _ hy0s_f4
  obtain rfl := (List.cons.inj K0_6).1
  obtain ⟨a0_7, K0_7, Q0_7⟩ := (op_int Try.underlying2) _ _ _ _ _ _ _ hy0s_f5
  obtain rfl := (List.cons.inj K0_7).1
  obtain ⟨a1, rfl, rfl, rfl, Q1⟩ := open_int Try.underlying2 (hval 1 2 v1 rfl rfl) h1
  clear hA0 hval0 hsz0
  obtain ⟨k, hp⟩ := Pure.FnExactScanBadBlocks a0_0 a0_1 a0_2 l0_3 a0_4 a0_5 a0_6 a0_7 a1 Q0_0 Q0_1 Q0_2 Q0_3 Q0_4 Q0_5 Q0_7 Q1
  refine (laws_FnExactScanBadBlocks.calls k a0_0 a0_1 a0_2 _ _ l0_3 a0_4 a0_5 a0_6 a0_7 a1 true W hr0_3 hc0_3 rfl hp).mono ?_
  rintro e W' ⟨rfl, hd⟩
  have bel : Below W.heap.size W W' := by first | exact hd | exact hd.below
  exact ⟨_, rfl, _, _, _, [], _, [], hW', trodAll_mk1 (shut_bool Try.underlying4 _), (trodAll_cons_mk (Below.trod laidOut (by kernel_rfl) (of_decide_eq_true (by kernel_rfl)) k0 bel lt0) (trodAll_cons_mk (shut_int Try.underlying2 Q1) trodAll_mk0)), rfl, bel.frame _, fun h => by cases h⟩
theorem over : Rows.fnExactScanBadBlocksRow.holds Try.pinned (OpenSpec.ofChange Rows.fnExactScanBadBlocksSpec) :=
  OpenClaim.holds_of_wide 8 Try.f8 rfl rfl rfl rfl rfl rfl rfl ⟨rfl, rfl, rfl, rfl, rfl⟩ rfl rfl rfl rfl rfl (by kernel_rfl) Try.func8 (by kernel_rfl)
    (of_decide_eq_true (by kernel_rfl)) (by unfold Func.isWrapper; first | (rw [if_pos (by decide +kernel)]; kernel_rfl) | (rw [if_neg (by decide +kernel)]; exact ⟨rfl, rfl⟩))
    (fun os started H enc _ => lifted os started H enc)
theorem proved : Rows.FnExactScanBadBlocksSaid := over
#print axioms proved
end Go.Proofs.Ytchpgjhbmeokaaa.fnExactScanBadBlocks
namespace Go.Proofs.Ytchpgjhbmeokaaa
/-- The row, under a short name, for the claim. -/
theorem fnExactScanBadBlocks_holds : Rows.FnExactScanBadBlocksSaid := fnExactScanBadBlocks.proved
end Go.Proofs.Ytchpgjhbmeokaaa
