-- Written by mp.py, a program of this session over the kit's print; the session answers for it, Lean checks it.
import Derived.Test.YtenmffpkdfbhbaaRows
import Derived.Test.YtenmffpkdfbhbaaQFnExactNewFlashx5
import Derived.Test.YtenmffpkdfbhbaaPureFnExactNewFlash
import Derived.Test.YtenmffpkdfbhbaaOpen
import Derived.WalkKit
import Derived.ProofKit
import Derived.OpenShut
import Derived.ShutString
import Derived.ChangeOld
import Derived.Below
import Derived.SizedLaws
namespace Go.Proofs.Ytenmffpkdfbhbaa.fnExactNewFlash
open Go.ChangeShapes Go.WideShapes Go.ChangeAt Go.RowKit Go.Proofs.Ytenmffpkdfbhbaa.QFnExactNewFlash Go.Proofs.Ytenmffpkdfbhbaa.Open Go.Proofs.YtenmffpkdfbhbaaW.PrintWords
open Go.ChangeMaps (open_string shut_string)
set_option linter.unusedVariables false
set_option linter.unusedSimpArgs false
theorem own : ownKnob Try.prog.godebug = none := by kernel_rfl
theorem laidOut : laidOutB Try.prog = true := by kernel_rfl
set_option maxHeartbeats 2000000 in
set_option maxRecDepth 100000 in
theorem lifted (os : Os) (started : os.Started) (H : Type) (enc : TypeId × Value → H) :
    ReturnsInHanded {} Try.checked os 14 .any (Rows.fnExactNewFlashSpec.pre6 enc Try.prog Try.f14 Rows.fnExactNewFlashRow.domain false) (Rows.fnExactNewFlashSpec.post enc Try.prog Try.f14 false true false false) := by
  refine returnsInHanded_of_change_sized (C := Try.checked) own started (by kernel_rfl) Try.func14
    (ChangeSpec.witness6 (enc := enc) (C := Try.checked) false ⟨#[], #[.agg #[.int .i64 0, .int .i64 0, .int .i64 0]], []⟩ 8 (by kernel_rfl) (by kernel_rfl) (by kernel_rfl) (by kernel_rfl)) ?_
  intro W base args ds gs before hval0 hW hcnd hsz0 _
  have hval : ∀ (j : Nat) t v, Try.f14.params[j]? = some t → args[j]? = some v → Value.okWide Try.prog W .any base t v := hval0
  have hW' := hW
  obtain ⟨p, q, hA0, hV, rfl, hfz, hnd⟩ := hW
  have hA : DataW.TrodAll enc Try.prog W 0 (fun _ => true) true Try.f14.params.toList args.toList ds p := hA0
  rw [Try.params14] at hA hval
  obtain ⟨v0, vs0, d0, ds0, p0, q0, hargs, rfl, rfl, h0, r0⟩ := trodAll_cons hA
  obtain ⟨rfl, rfl, rfl⟩ := trodAll_nil r0
  obtain rfl : args = #[v0] := by cases args; simp_all
  obtain ⟨rfl, rfl⟩ := trodVars_none hV
  obtain ⟨cs0, rfl, hs0⟩ := okWide_struct Try.underlying63 (hval 0 63 v0 rfl rfl)
  have k0 := h0
  have lt0 : ∀ x ∈ p0, x.block < W.heap.size := by obtain ⟨m, hm⟩ := k0; exact DataW.trod_lt m _ _ _ hm
  obtain ⟨fuel0, hf0⟩ := h0
  obtain ⟨cl0⟩ := cs0
  have hz0_0 : cl0.length = 3 := hs0.trans (by kernel_rfl)
  obtain ⟨u0_0, t0_0, rfl, hz0_1⟩ := next_cell hz0_0
  obtain ⟨u0_1, t0_1, rfl, hz0_2⟩ := next_cell hz0_1
  obtain ⟨u0_2, t0_2, rfl, hz0_3⟩ := next_cell hz0_2
  obtain rfl := List.eq_nil_of_length_eq_zero hz0_3
  have g0 : DataW.trod enc Try.prog W 0 (fun _ => true) true fuel0 63 [u0_0, u0_1, u0_2] = _ := hf0
  obtain ⟨n0s, F0s⟩ := fields_of Try.underlying63 g0
  obtain ⟨y0s_f0, hy0s_f0⟩ := F0s 0 _ rfl
  have cz0s_f0 : Try.prog.cellsOf 2 = 1 := by kernel_rfl
  replace hy0s_f0 : DataW.trod enc Try.prog W 0 (fun _ => true) true n0s 2 (List.take (Try.prog.cellsOf 2) (List.drop 0 [u0_0, u0_1, u0_2])) = _ := hy0s_f0
  rw [cz0s_f0] at hy0s_f0
  replace hy0s_f0 : DataW.trod enc Try.prog W 0 (fun _ => true) true n0s 2 [u0_0] = _ := hy0s_f0
  obtain ⟨y0s_f1, hy0s_f1⟩ := F0s 1 _ rfl
  have cz0s_f1 : Try.prog.cellsOf 2 = 1 := by kernel_rfl
  replace hy0s_f1 : DataW.trod enc Try.prog W 0 (fun _ => true) true n0s 2 (List.take (Try.prog.cellsOf 2) (List.drop 1 [u0_0, u0_1, u0_2])) = _ := hy0s_f1
  rw [cz0s_f1] at hy0s_f1
  replace hy0s_f1 : DataW.trod enc Try.prog W 0 (fun _ => true) true n0s 2 [u0_1] = _ := hy0s_f1
  obtain ⟨y0s_f2, hy0s_f2⟩ := F0s 2 _ rfl
  have cz0s_f2 : Try.prog.cellsOf 2 = 1 := by kernel_rfl
  replace hy0s_f2 : DataW.trod enc Try.prog W 0 (fun _ => true) true n0s 2 (List.take (Try.prog.cellsOf 2) (List.drop 2 [u0_0, u0_1, u0_2])) = _ := hy0s_f2
  rw [cz0s_f2] at hy0s_f2
  replace hy0s_f2 : DataW.trod enc Try.prog W 0 (fun _ => true) true n0s 2 [u0_2] = _ := hy0s_f2
  obtain ⟨a0_0, K0_0, Q0_0⟩ := (op_int Try.underlying2) _ _ _ _ _ _ _ hy0s_f0
  obtain rfl := (List.cons.inj K0_0).1
  obtain ⟨a0_1, K0_1, Q0_1⟩ := (op_int Try.underlying2) _ _ _ _ _ _ _ hy0s_f1
  obtain rfl := (List.cons.inj K0_1).1
  obtain ⟨a0_2, K0_2, Q0_2⟩ := (op_int Try.underlying2) _ _ _ _ _ _ _ hy0s_f2
  obtain rfl := (List.cons.inj K0_2).1
  clear hA0 hval0 hsz0
  obtain ⟨k, hp⟩ := Pure.FnExactNewFlash a0_0 a0_1 a0_2 Q0_0 Q0_1 Q0_2
  refine (laws_FnExactNewFlash.calls k a0_0 a0_1 a0_2 true W rfl hp).mono ?_
  rintro e W' ⟨rfl, hd⟩
  have bel : Below W.heap.size W W' := by first | exact hd | exact hd.below
  exact ⟨_, rfl, _, _, _, [], _, [], hW', trodAll_mk1 (shut_bool Try.underlying4 _), (trodAll_cons_mk (Below.trod laidOut (by kernel_rfl) (of_decide_eq_true (by kernel_rfl)) k0 bel lt0) trodAll_mk0), rfl, bel.frame _, fun h => by cases h⟩
theorem over : Rows.fnExactNewFlashRow.holds Try.pinned (OpenSpec.ofChange Rows.fnExactNewFlashSpec) :=
  OpenClaim.holds_of_wide 14 Try.f14 rfl rfl rfl rfl rfl rfl rfl ⟨rfl, rfl, rfl, rfl, rfl⟩ rfl rfl rfl rfl rfl (by kernel_rfl) Try.func14 (by kernel_rfl)
    (of_decide_eq_true (by kernel_rfl)) (by unfold Func.isWrapper; first | (rw [if_pos (by decide +kernel)]; kernel_rfl) | (rw [if_neg (by decide +kernel)]; exact ⟨rfl, rfl⟩))
    (fun os started H enc _ => lifted os started H enc)
theorem proved : Rows.FnExactNewFlashSaid := over
#print axioms proved
end Go.Proofs.Ytenmffpkdfbhbaa.fnExactNewFlash
namespace Go.Proofs.Ytenmffpkdfbhbaa
/-- The row, under a short name, for the claim. -/
theorem fnExactNewFlash_holds : Rows.FnExactNewFlashSaid := fnExactNewFlash.proved
end Go.Proofs.Ytenmffpkdfbhbaa
