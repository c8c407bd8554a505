-- Written by mp.py, a program of this session over the kit's print; the session answers for it, Lean checks it.
import Derived.Test.YtchpgjhbmeokaaaRows
import Derived.Test.YtchpgjhbmeokaaaVQFnExactDifferingBitsx12
import Derived.Test.YtchpgjhbmeokaaaVPureFnExactDifferingBits
import Derived.Test.YtchpgjhbmeokaaaVOpen
import Derived.WalkKit
import Derived.ProofKit
import Derived.OpenShut
import Derived.ShutString
import Derived.ChangeOld
import Derived.Below
import Derived.SizedLaws
namespace Go.Proofs.Ytchpgjhbmeokaaa.fnExactDifferingBits
open Go.ChangeShapes Go.WideShapes Go.ChangeAt Go.RowKit Go.Proofs.Ytchpgjhbmeokaaa.QFnExactDifferingBits Go.Proofs.Ytchpgjhbmeokaaa.Open Go.Proofs.YtchpgjhbmeokaaaW.PrintWords
open Go.ChangeMaps (open_string shut_string)
set_option linter.unusedVariables false
set_option linter.unusedSimpArgs false
theorem own : ownKnob Try.prog.godebug = none := by kernel_rfl
theorem laidOut : laidOutB Try.prog = true := by kernel_rfl
theorem op113 : Tells Try.prog k113 113 wf113 :=
  (op_struct (g := fun a => (⟨a.1, a.2.1, a.2.2.1, a.2.2.2⟩ : S113)) (fun _ => rfl) Try.underlying113 (by kernel_rfl) (opl_cons (op_int Try.underlying2) rfl (by kernel_rfl) (by kernel_rfl) (opl_cons (op_int Try.underlying2) rfl (by kernel_rfl) (by kernel_rfl) (opl_cons (op_bool Try.underlying4) rfl (by kernel_rfl) (by kernel_rfl) (opl_one (op_slice (e := 9) Try.underlying89 (by kernel_rfl) (op_string Try.underlying9)) rfl (by kernel_rfl)))))).imp (fun _ h => h)
set_option maxHeartbeats 2000000 in
set_option maxRecDepth 100000 in
theorem lifted (os : Os) (started : os.Started) (H : Type) (enc : TypeId × Value → H) :
    ReturnsInHanded {} Try.checked os 9 .any (Rows.fnExactDifferingBitsSpec.pre6 enc Try.prog Try.f9 Rows.fnExactDifferingBitsRow.domain false) (Rows.fnExactDifferingBitsSpec.post enc Try.prog Try.f9 false true false false) := by
  refine returnsInHanded_of_change_sized (C := Try.checked) own started (by kernel_rfl) Try.func9
    (ChangeSpec.witness6 (enc := enc) (C := Try.checked) false ⟨#[], #[.agg #[.int .i64 0, .int .i64 0, .int .i64 0, .slice none 0 0, .int .i64 0, .int .i64 0, .bool false, .int .i64 0], .agg #[.int .i64 0, .int .i64 0, .int .i64 0, .slice none 0 0, .int .i64 0, .int .i64 0, .bool false, .int .i64 0]], []⟩ 8 (by kernel_rfl) (by kernel_rfl) (by kernel_rfl) (by kernel_rfl)) ?_
  intro W base args ds gs before hval0 hW hcnd hsz0 _
  have hval : ∀ (j : Nat) t v, Try.f9.params[j]? = some t → args[j]? = some v → Value.okWide Try.prog W .any base t v := hval0
  have hW' := hW
  obtain ⟨p, q, hA0, hV, rfl, hfz, hnd⟩ := hW
  have hA : DataW.TrodAll enc Try.prog W 0 (fun _ => true) true Try.f9.params.toList args.toList ds p := hA0
  rw [Try.params9] at hA hval
  obtain ⟨v0, vs0, d0, ds0, p0, q0, hargs, rfl, rfl, h0, r0⟩ := trodAll_cons hA
  obtain ⟨v1, vs1, d1, ds1, p1, q1, rfl, rfl, rfl, h1, r1⟩ := trodAll_cons r0
  obtain ⟨rfl, rfl, rfl⟩ := trodAll_nil r1
  obtain rfl : args = #[v0, v1] := by cases args; simp_all
  obtain ⟨rfl, rfl⟩ := trodVars_none hV
  obtain ⟨cs0, rfl, hs0⟩ := okWide_struct Try.underlying48 (hval 0 48 v0 rfl rfl)
  have k0 := h0
  have lt0 : ∀ x ∈ p0, x.block < W.heap.size := by obtain ⟨m, hm⟩ := k0; exact DataW.trod_lt m _ _ _ hm
  obtain ⟨fuel0, hf0⟩ := h0
  obtain ⟨cl0⟩ := cs0
  have hz0_0 : cl0.length = 8 := hs0.trans (by kernel_rfl)
  obtain ⟨u0_0, t0_0, rfl, hz0_1⟩ := next_cell hz0_0
  obtain ⟨u0_1, t0_1, rfl, hz0_2⟩ := next_cell hz0_1
  obtain ⟨u0_2, t0_2, rfl, hz0_3⟩ := next_cell hz0_2
  obtain ⟨u0_3, t0_3, rfl, hz0_4⟩ := next_cell hz0_3
  obtain ⟨u0_4, t0_4, rfl, hz0_5⟩ := next_cell hz0_4
  obtain ⟨u0_5, t0_5, rfl, hz0_6⟩ := next_cell hz0_5
  obtain ⟨u0_6, t0_6, rfl, hz0_7⟩ := next_cell hz0_6
  obtain ⟨u0_7, t0_7, rfl, hz0_8⟩ := next_cell hz0_7
  obtain rfl := List.eq_nil_of_length_eq_zero hz0_8
  have g0 : DataW.trod enc Try.prog W 0 (fun _ => true) true fuel0 48 [u0_0, u0_1, u0_2, u0_3, u0_4, u0_5, u0_6, u0_7] = _ := hf0
  obtain ⟨n0s, F0s⟩ := fields_of Try.underlying48 g0
  obtain ⟨y0s_f0, hy0s_f0⟩ := F0s 0 _ rfl
  have cz0s_f0 : Try.prog.cellsOf 23 = 3 := by kernel_rfl
  replace hy0s_f0 : DataW.trod enc Try.prog W 0 (fun _ => true) true n0s 23 (List.take (Try.prog.cellsOf 23) (List.drop 0 [u0_0, u0_1, u0_2, u0_3, u0_4, u0_5, u0_6, u0_7])) = _ := hy0s_f0
  rw [cz0s_f0] at hy0s_f0
  replace hy0s_f0 : DataW.trod enc Try.prog W 0 (fun _ => true) true n0s 23 [u0_0, u0_1, u0_2] = _ := hy0s_f0
  obtain ⟨n0s_f0, F0s_f0⟩ := fields_of Try.underlying23 hy0s_f0
  obtain ⟨y0s_f0_f0, hy0s_f0_f0⟩ := F0s_f0 0 _ rfl
  have cz0s_f0_f0 : Try.prog.cellsOf 2 = 1 := by kernel_rfl
  replace hy0s_f0_f0 : DataW.trod enc Try.prog W 0 (fun _ => true) true n0s_f0 2 (List.take (Try.prog.cellsOf 2) (List.drop 0 [u0_0, u0_1, u0_2])) = _ := hy0s_f0_f0
  rw [cz0s_f0_f0] at hy0s_f0_f0
  replace hy0s_f0_f0 : DataW.trod enc Try.prog W 0 (fun _ => true) true n0s_f0 2 [u0_0] = _ := hy0s_f0_f0
  obtain ⟨y0s_f0_f1, hy0s_f0_f1⟩ := F0s_f0 1 _ rfl
  have cz0s_f0_f1 : Try.prog.cellsOf 2 = 1 := by kernel_rfl
  replace hy0s_f0_f1 : DataW.trod enc Try.prog W 0 (fun _ => true) true n0s_f0 2 (List.take (Try.prog.cellsOf 2) (List.drop 1 [u0_0, u0_1, u0_2])) = _ := hy0s_f0_f1
  rw [cz0s_f0_f1] at hy0s_f0_f1
  replace hy0s_f0_f1 : DataW.trod enc Try.prog W 0 (fun _ => true) true n0s_f0 2 [u0_1] = _ := hy0s_f0_f1
  obtain ⟨y0s_f0_f2, hy0s_f0_f2⟩ := F0s_f0 2 _ rfl
  have cz0s_f0_f2 : Try.prog.cellsOf 2 = 1 := by kernel_rfl
  replace hy0s_f0_f2 : DataW.trod enc Try.prog W 0 (fun _ => true) true n0s_f0 2 (List.take (Try.prog.cellsOf 2) (List.drop 2 [u0_0, u0_1, u0_2])) = _ := hy0s_f0_f2
  rw [cz0s_f0_f2] at hy0s_f0_f2
  replace hy0s_f0_f2 : DataW.trod enc Try.prog W 0 (fun _ => true) true n0s_f0 2 [u0_2] = _ := hy0s_f0_f2
  obtain ⟨y0s_f1, hy0s_f1⟩ := F0s 1 _ rfl
  have cz0s_f1 : Try.prog.cellsOf 46 = 1 := by kernel_rfl
  replace hy0s_f1 : DataW.trod enc Try.prog W 0 (fun _ => true) true n0s 46 (List.take (Try.prog.cellsOf 46) (List.drop 3 [u0_0, u0_1, u0_2, u0_3, u0_4, u0_5, u0_6, u0_7])) = _ := hy0s_f1
  rw [cz0s_f1] at hy0s_f1
  replace hy0s_f1 : DataW.trod enc Try.prog W 0 (fun _ => true) true n0s 46 [u0_3] = _ := hy0s_f1
  obtain ⟨y0s_f2, hy0s_f2⟩ := F0s 2 _ rfl
  have cz0s_f2 : Try.prog.cellsOf 2 = 1 := by kernel_rfl
  replace hy0s_f2 : DataW.trod enc Try.prog W 0 (fun _ => true) true n0s 2 (List.take (Try.prog.cellsOf 2) (List.drop 4 [u0_0, u0_1, u0_2, u0_3, u0_4, u0_5, u0_6, u0_7])) = _ := hy0s_f2
  rw [cz0s_f2] at hy0s_f2
  replace hy0s_f2 : DataW.trod enc Try.prog W 0 (fun _ => true) true n0s 2 [u0_4] = _ := hy0s_f2
  obtain ⟨y0s_f3, hy0s_f3⟩ := F0s 3 _ rfl
  have cz0s_f3 : Try.prog.cellsOf 2 = 1 := by kernel_rfl
  replace hy0s_f3 : DataW.trod enc Try.prog W 0 (fun _ => true) true n0s 2 (List.take (Try.prog.cellsOf 2) (List.drop 5 [u0_0, u0_1, u0_2, u0_3, u0_4, u0_5, u0_6, u0_7])) = _ := hy0s_f3
  rw [cz0s_f3] at hy0s_f3
  replace hy0s_f3 : DataW.trod enc Try.prog W 0 (fun _ => true) true n0s 2 [u0_5] = _ := hy0s_f3
  obtain ⟨y0s_f4, hy0s_f4⟩ := F0s 4 _ rfl
  have cz0s_f4 : Try.prog.cellsOf 4 = 1 := by kernel_rfl
  replace hy0s_f4 : DataW.trod enc Try.prog W 0 (fun _ => true) true n0s 4 (List.take (Try.prog.cellsOf 4) (List.drop 6 [u0_0, u0_1, u0_2, u0_3, u0_4, u0_5, u0_6, u0_7])) = _ := hy0s_f4
  rw [cz0s_f4] at hy0s_f4
  replace hy0s_f4 : DataW.trod enc Try.prog W 0 (fun _ => true) true n0s 4 [u0_6] = _ := hy0s_f4
  obtain ⟨y0s_f5, hy0s_f5⟩ := F0s 5 _ rfl
  have cz0s_f5 : Try.prog.cellsOf 2 = 1 := by kernel_rfl
  replace hy0s_f5 : DataW.trod enc Try.prog W 0 (fun _ => true) true n0s 2 (List.take (Try.prog.cellsOf 2) (List.drop 7 [u0_0, u0_1, u0_2, u0_3, u0_4, u0_5, u0_6, u0_7])) = _ := hy0s_f5
  rw [cz0s_f5] at hy0s_f5
  replace hy0s_f5 : DataW.trod enc Try.prog W 0 (fun _ => true) true n0s 2 [u0_7] = _ := hy0s_f5
  obtain ⟨a0_0, K0_0, Q0_0⟩ := (op_int Try.underlying2) _ _ _ _ _ _ _ hy0s_f0_f0
  obtain rfl := (List.cons.inj K0_0).1
  obtain ⟨a0_1, K0_1, Q0_1⟩ := (op_int Try.underlying2) _ _ _ _ _ _ _ hy0s_f0_f1
  obtain rfl := (List.cons.inj K0_1).1
  obtain ⟨a0_2, K0_2, Q0_2⟩ := (op_int Try.underlying2) _ _ _ _ _ _ _ hy0s_f0_f2
  obtain rfl := (List.cons.inj K0_2).1
  obtain ⟨l0_3, K0_3, Q0_3⟩ := (op_slice (e := 113) Try.underlying46 (by kernel_rfl) op113) _ _ _ _ _ _ _ hy0s_f1
  obtain ⟨A0_3, c0_3, e0_3, hc0_3, hr0_3⟩ := K0_3
  obtain rfl := (List.cons.inj e0_3).1
  obtain ⟨a0_4, K0_4, Q0_4⟩ := (op_int Try.underlying2) _ _ _ _ _ _ _ hy0s_f2
  obtain rfl := (List.cons.inj K0_4).1
  obtain ⟨a0_5, K0_5, Q0_5⟩ := (op_int Try.underlying2) _ _ _ _ _ _ _ hy0s_f3
  obtain rfl := (List.cons.inj K0_5).1
  obtain ⟨a0_6, K0_6, Q0_6⟩ := (op_bool Try.underlying4) _ _ _ _ _ _ _ hy0s_f4
  obtain rfl := (List.cons.inj K0_6).1
  obtain ⟨a0_7, K0_7, Q0_7⟩ := (op_int Try.underlying2) _ _ _ _ _ _ _ hy0s_f5
  obtain rfl := (List.cons.inj K0_7).1
  obtain ⟨cs1, rfl, hs1⟩ := okWide_struct Try.underlying48 (hval 1 48 v1 rfl rfl)
  have k1 := h1
  have lt1 : ∀ x ∈ p1, x.block < W.heap.size := by obtain ⟨m, hm⟩ := k1; exact DataW.trod_lt m _ _ _ hm
  obtain ⟨fuel1, hf1⟩ := h1
  obtain ⟨cl1⟩ := cs1
  have hz1_0 : cl1.length = 8 := hs1.trans (by kernel_rfl)
  obtain ⟨u1_0, t1_0, rfl, hz1_1⟩ := next_cell hz1_0
  obtain ⟨u1_1, t1_1, rfl, hz1_2⟩ := next_cell hz1_1
  obtain ⟨u1_2, t1_2, rfl, hz1_3⟩ := next_cell hz1_2
  obtain ⟨u1_3, t1_3, rfl, hz1_4⟩ := next_cell hz1_3
  obtain ⟨u1_4, t1_4, rfl, hz1_5⟩ := next_cell hz1_4
  obtain ⟨u1_5, t1_5, rfl, hz1_6⟩ := next_cell hz1_5
  obtain ⟨u1_6, t1_6, rfl, hz1_7⟩ := next_cell hz1_6
  obtain ⟨u1_7, t1_7, rfl, hz1_8⟩ := next_cell hz1_7
  obtain rfl := List.eq_nil_of_length_eq_zero hz1_8
  have g1 : DataW.trod enc Try.prog W 0 (fun _ => true) true fuel1 48 [u1_0, u1_1, u1_2, u1_3, u1_4, u1_5, u1_6, u1_7] = _ := hf1
  obtain ⟨n1s, F1s⟩ := fields_of Try.underlying48 g1
  obtain ⟨y1s_f0, hy1s_f0⟩ := F1s 0 _ rfl
  have cz1s_f0 : Try.prog.cellsOf 23 = 3 := by kernel_rfl
  replace hy1s_f0 : DataW.trod enc Try.prog W 0 (fun _ => true) true n1s 23 (List.take (Try.prog.cellsOf 23) (List.drop 0 [u1_0, u1_1, u1_2, u1_3, u1_4, u1_5, u1_6, u1_7])) = _ := hy1s_f0
  rw [cz1s_f0] at hy1s_f0
  replace hy1s_f0 : DataW.trod enc Try.prog W 0 (fun _ => true) true n1s 23 [u1_0, u1_1, u1_2] = _ := hy1s_f0
  obtain ⟨n1s_f0, F1s_f0⟩ := fields_of Try.underlying23 hy1s_f0
  obtain ⟨y1s_f0_f0, hy1s_f0_f0⟩ := F1s_f0 0 _ rfl
  have cz1s_f0_f0 : Try.prog.cellsOf 2 = 1 := by kernel_rfl
  replace hy1s_f0_f0 : DataW.trod enc Try.prog W 0 (fun _ => true) true n1s_f0 2 (List.take (Try.prog.cellsOf 2) (List.drop 0 [u1_0, u1_1, u1_2])) = _ := hy1s_f0_f0
  rw [cz1s_f0_f0] at hy1s_f0_f0
  replace hy1s_f0_f0 : DataW.trod enc Try.prog W 0 (fun _ => true) true n1s_f0 2 [u1_0] = _ := hy1s_f0_f0
  obtain ⟨y1s_f0_f1, hy1s_f0_f1⟩ := F1s_f0 1 _ rfl
  have cz1s_f0_f1 : Try.prog.cellsOf 2 = 1 := by kernel_rfl
  replace hy1s_f0_f1 : DataW.trod enc Try.prog W 0 (fun _ => true) true n1s_f0 2 (List.take (Try.prog.cellsOf 2) (List.drop 1 [u1_0, u1_1, u1_2])) = _ := hy1s_f0_f1
  rw [cz1s_f0_f1] at hy1s_f0_f1
  replace hy1s_f0_f1 : DataW.trod enc Try.prog W 0 (fun _ => true) true n1s_f0 2 [u1_1] = _ := hy1s_f0_f1
  obtain ⟨y1s_f0_f2, hy1s_f0_f2⟩ := F1s_f0 2 _ rfl
  have cz1s_f0_f2 : Try.prog.cellsOf 2 = 1 := by kernel_rfl
  replace hy1s_f0_f2 : DataW.trod enc Try.prog W 0 (fun _ => true) true n1s_f0 2 (List.take (Try.prog.cellsOf 2) (List.drop 2 [u1_0, u1_1, u1_2])) = _ := hy1s_f0_f2
  rw [cz1s_f0_f2] at hy1s_f0_f2
  replace hy1s_f0_f2 : DataW.trod enc Try.prog W 0 (fun _ => true) true n1s_f0 2 [u1_2] = _ := hy1s_f0_f2
  obtain ⟨y1s_f1, hy1s_f1⟩ := F1s 1 _ rfl
  have cz1s_f1 : Try.prog.cellsOf 46 = 1 := by kernel_rfl
  replace hy1s_f1 : DataW.trod enc Try.prog W 0 (fun _ => true) true n1s 46 (List.take (Try.prog.cellsOf 46) (List.drop 3 [u1_0, u1_1, u1_2, u1_3, u1_4, u1_5, u1_6, u1_7])) = _ := hy1s_f1
  rw [cz1s_f1] at hy1s_f1
  replace hy1s_f1 : DataW.trod enc Try.prog W 0 (fun _ => true) true n1s 46 [u1_3] = _ := hy1s_f1
  obtain ⟨y1s_f2, hy1s_f2⟩ := F1s 2 _ rfl
  have cz1s_f2 : Try.prog.cellsOf 2 = 1 := by kernel_rfl
  replace hy1s_f2 : DataW.trod enc Try.prog W 0 (fun _ => true) true n1s 2 (List.take (Try.prog.cellsOf 2) (List.drop 4 [u1_0, u1_1, u1_2, u1_3, u1_4, u1_5, u1_6, u1_7])) = _ := hy1s_f2
  rw [cz1s_f2] at hy1s_f2
  replace hy1s_f2 : DataW.trod enc Try.prog W 0 (fun _ => true) true n1s 2 [u1_4] = _ := hy1s_f2
  obtain ⟨y1s_f3, hy1s_f3⟩ := F1s 3 _ rfl
  have cz1s_f3 : Try.prog.cellsOf 2 = 1 := by kernel_rfl
  replace hy1s_f3 : DataW.trod enc Try.prog W 0 (fun _ => true) true n1s 2 (List.take (Try.prog.cellsOf 2) (List.drop 5 [u1_0, u1_1, u1_2, u1_3, u1_4, u1_5, u1_6, u1_7])) = _ := hy1s_f3
  rw [cz1s_f3] at hy1s_f3
  replace hy1s_f3 : DataW.trod enc Try.prog W 0 (fun _ => true) true n1s 2 [u1_5] = _ := hy1s_f3
  obtain ⟨y1s_f4, hy1s_f4⟩ := F1s 4 _ rfl
  have cz1s_f4 : Try.prog.cellsOf 4 = 1 := by kernel_rfl
  replace hy1s_f4 : DataW.trod enc Try.prog W 0 (fun _ => true) true n1s 4 (List.take (Try.prog.cellsOf 4) (List.drop 6 [u1_0, u1_1, u1_2, u1_3, u1_4, u1_5, u1_6, u1_7])) = _ := hy1s_f4
  rw [cz1s_f4] at hy1s_f4
  replace hy1s_f4 : DataW.trod enc Try.prog W 0 (fun _ => true) true n1s 4 [u1_6] = _ := hy1s_f4
  obtain ⟨y1s_f5, hy1s_f5⟩ := F1s 5 _ rfl
  have cz1s_f5 : Try.prog.cellsOf 2 = 1 := by kernel_rfl
  replace hy1s_f5 : DataW.trod enc Try.prog W 0 (fun _ => true) true n1s 2 (List.take (Try.prog.cellsOf 2) (List.drop 7 [u1_0, u1_1, u1_2, u1_3, u1_4, u1_5, u1_6, u1_7])) = _ := hy1s_f5
  rw [cz1s_f5] at hy1s_f5
  replace hy1s_f5 : DataW.trod enc Try.prog W 0 (fun _ => true) true n1s 2 [u1_7] = _ := hy1s_f5
  obtain ⟨a1_0, K1_0, Q1_0⟩ := (op_int Try.underlying2) _ _ _ _ _ _ _ hy1s_f0_f0
  obtain rfl := (List.cons.inj K1_0).1
  obtain ⟨a1_1, K1_1, Q1_1⟩ := (op_int Try.underlying2) _ _ _ _ _ _ _ hy1s_f0_f1
  obtain rfl := (List.cons.inj K1_1).1
  obtain ⟨a1_2, K1_2, Q1_2⟩ := (op_int Try.underlying2) _ _ _ _ _ _ _ hy1s_f0_f2
  obtain rfl := (List.cons.inj K1_2).1
  obtain ⟨l1_3, K1_3, Q1_3⟩ := (op_slice (e := 113) Try.underlying46 (by kernel_rfl) op113) _ _ _ _ _ _ _ hy1s_f1
  obtain ⟨A1_3, c1_3, e1_3, hc1_3, hr1_3⟩ := K1_3
  obtain rfl := (List.cons.inj e1_3).1
  obtain ⟨a1_4, K1_4, Q1_4⟩ := (op_int Try.underlying2) _ _ _ _ _ _ _ hy1s_f2
  obtain rfl := (List.cons.inj K1_4).1
  obtain ⟨a1_5, K1_5, Q1_5⟩ := (op_int Try.underlying2) _ _ _ _ _ _ _ hy1s_f3
  obtain rfl := (List.cons.inj K1_5).1
  obtain ⟨a1_6, K1_6, Q1_6⟩ := (op_bool Try.underlying4) _ _ _ _ _ _ _ hy1s_f4
  obtain rfl := (List.cons.inj K1_6).1
  obtain ⟨a1_7, K1_7, Q1_7⟩ := (op_int Try.underlying2) _ _ _ _ _ _ _ hy1s_f5
  obtain rfl := (List.cons.inj K1_7).1
  clear hA0 hval0 hsz0
  obtain ⟨k, hp⟩ := Pure.FnExactDifferingBits a0_0 a0_1 a0_2 l0_3 a0_4 a0_5 a0_6 a0_7 a1_0 a1_1 a1_2 l1_3 a1_4 a1_5 a1_6 a1_7 Q0_0 Q0_1 Q0_2 Q0_3 Q0_4 Q0_5 Q0_7 Q1_0 Q1_1 Q1_2 Q1_3 Q1_4 Q1_5 Q1_7
  refine (laws_FnExactDifferingBits.calls k a0_0 a0_1 a0_2 _ _ l0_3 a0_4 a0_5 a0_6 a0_7 a1_0 a1_1 a1_2 _ _ l1_3 a1_4 a1_5 a1_6 a1_7 true W hr0_3 hc0_3 hr1_3 hc1_3 rfl hp).mono ?_
  rintro e W' ⟨rfl, hd⟩
  have bel : Below W.heap.size W W' := by first | exact hd | exact hd.below
  exact ⟨_, rfl, _, _, _, [], _, [], hW', trodAll_mk1 (shut_bool Try.underlying4 _), (trodAll_cons_mk (Below.trod laidOut (by kernel_rfl) (of_decide_eq_true (by kernel_rfl)) k0 bel lt0) (trodAll_cons_mk (Below.trod laidOut (by kernel_rfl) (of_decide_eq_true (by kernel_rfl)) k1 bel lt1) trodAll_mk0)), rfl, bel.frame _, fun h => by cases h⟩
theorem over : Rows.fnExactDifferingBitsRow.holds Try.pinned (OpenSpec.ofChange Rows.fnExactDifferingBitsSpec) :=
  OpenClaim.holds_of_wide 9 Try.f9 rfl rfl rfl rfl rfl rfl rfl ⟨rfl, rfl, rfl, rfl, rfl⟩ rfl rfl rfl rfl rfl (by kernel_rfl) Try.func9 (by kernel_rfl)
    (of_decide_eq_true (by kernel_rfl)) (by unfold Func.isWrapper; first | (rw [if_pos (by decide +kernel)]; kernel_rfl) | (rw [if_neg (by decide +kernel)]; exact ⟨rfl, rfl⟩))
    (fun os started H enc _ => lifted os started H enc)
theorem proved : Rows.FnExactDifferingBitsSaid := over
#print axioms proved
end Go.Proofs.Ytchpgjhbmeokaaa.fnExactDifferingBits
namespace Go.Proofs.Ytchpgjhbmeokaaa
/-- The row, under a short name, for the claim. -/
theorem fnExactDifferingBits_holds : Rows.FnExactDifferingBitsSaid := fnExactDifferingBits.proved
end Go.Proofs.Ytchpgjhbmeokaaa
