-- Written by mp.py, a program of this session over the kit's print; the session answers for it, Lean checks it.
import Derived.Test.YtenmffpkdfbhbaaRows
import Derived.Test.YtenmffpkdfbhbaaVQFnExactNewestOfx9
import Derived.Test.YtenmffpkdfbhbaaVPureFnExactNewestOf
import Derived.Test.YtenmffpkdfbhbaaVOpen
import Derived.WalkKit
import Derived.ProofKit
import Derived.OpenShut
import Derived.ShutString
import Derived.ChangeOld
import Derived.Below
import Derived.SizedLaws
namespace Go.Proofs.Ytenmffpkdfbhbaa.fnExactNewestOf
open Go.ChangeShapes Go.WideShapes Go.ChangeAt Go.RowKit Go.Proofs.Ytenmffpkdfbhbaa.QFnExactNewestOf Go.Proofs.Ytenmffpkdfbhbaa.Open Go.Proofs.YtenmffpkdfbhbaaW.PrintWords
open Go.ChangeMaps (open_string shut_string)
set_option linter.unusedVariables false
set_option linter.unusedSimpArgs false
theorem own : ownKnob Try.prog.godebug = none := by kernel_rfl
theorem laidOut : laidOutB Try.prog = true := by kernel_rfl
theorem op87 : Tells Try.prog k87 87 wf87 :=
  (op_struct (g := fun a => (⟨a.1, a.2.1, a.2.2.1, a.2.2.2.1, a.2.2.2.2⟩ : S87)) (fun _ => rfl) Try.underlying87 (by kernel_rfl) (opl_cons (op_int Try.underlying2) rfl (by kernel_rfl) (by kernel_rfl) (opl_cons (op_int Try.underlying2) rfl (by kernel_rfl) (by kernel_rfl) (opl_cons (op_int Try.underlying2) rfl (by kernel_rfl) (by kernel_rfl) (opl_cons (op_int Try.underlying2) rfl (by kernel_rfl) (by kernel_rfl) (opl_one (op_int Try.underlying2) rfl (by kernel_rfl))))))).imp (fun _ h => h)
theorem op89 : Tells Try.prog k89 89 wf89 :=
  (op_struct (g := fun a => (⟨a.1, a.2⟩ : S89)) (fun _ => rfl) Try.underlying89 (by kernel_rfl) (opl_cons (op_int Try.underlying2) rfl (by kernel_rfl) (by kernel_rfl) (opl_one op87 rfl (by kernel_rfl)))).imp (fun _ h => h)
set_option maxHeartbeats 2000000 in
set_option maxRecDepth 100000 in
theorem lifted (os : Os) (started : os.Started) (H : Type) (enc : TypeId × Value → H) :
    ReturnsInHanded {} Try.checked os 11 .any (Rows.fnExactNewestOfSpec.pre6 enc Try.prog Try.f11 Rows.fnExactNewestOfRow.domain false) (Rows.fnExactNewestOfSpec.post enc Try.prog Try.f11 false true false false) := by
  refine returnsInHanded_of_change_sized (C := Try.checked) own started (by kernel_rfl) Try.func11
    (ChangeSpec.witness6 (enc := enc) (C := Try.checked) false ⟨#[], #[.slice none 0 0, .int .i64 0], []⟩ 8 (by kernel_rfl) (by kernel_rfl) (by kernel_rfl) (by kernel_rfl)) ?_
  intro W base args ds gs before hval0 hW hcnd hsz0 _
  have hval : ∀ (j : Nat) t v, Try.f11.params[j]? = some t → args[j]? = some v → Value.okWide Try.prog W .any base t v := hval0
  have hW' := hW
  obtain ⟨p, q, hA0, hV, rfl, hfz, hnd⟩ := hW
  have hA : DataW.TrodAll enc Try.prog W 0 (fun _ => true) true Try.f11.params.toList args.toList ds p := hA0
  rw [Try.params11] at hA hval
  obtain ⟨v0, vs0, d0, ds0, p0, q0, hargs, rfl, rfl, h0, r0⟩ := trodAll_cons hA
  obtain ⟨v1, vs1, d1, ds1, p1, q1, rfl, rfl, rfl, h1, r1⟩ := trodAll_cons r0
  obtain ⟨rfl, rfl, rfl⟩ := trodAll_nil r1
  obtain rfl : args = #[v0, v1] := by cases args; simp_all
  obtain ⟨rfl, rfl⟩ := trodVars_none hV
  obtain ⟨a0, len0, cap0, rfl⟩ := okWide_slice Try.underlying28 (hval 0 28 v0 rfl rfl)
  have k0 := h0
  have lt0 : ∀ x ∈ p0, x.block < W.heap.size := by obtain ⟨m, hm⟩ := k0; exact DataW.trod_lt m _ _ _ hm
  obtain ⟨fuel0, hf0⟩ := h0
  have g0 : DataW.trod enc Try.prog W 0 (fun _ => true) true fuel0 28 [.slice a0 len0 cap0] = _ := hf0
  obtain ⟨l0, K0, Q0⟩ := (op_slice (e := 89) Try.underlying28 (by kernel_rfl) op89) _ _ _ _ _ _ _ g0
  obtain ⟨A0, c0, e0, hc0, hr0⟩ := K0
  obtain ⟨rfl, rfl, rfl⟩ := Value.slice.inj (List.cons.inj e0).1
  obtain ⟨a1, rfl, rfl, rfl, Q1⟩ := open_int Try.underlying2 (hval 1 2 v1 rfl rfl) h1
  clear hA0 hval0 hsz0
  obtain ⟨k, hp⟩ := Pure.FnExactNewestOf l0 a1 Q0 Q1
  refine (laws_FnExactNewestOf.calls k _ _ l0 a1 true W hr0 hc0 rfl hp).mono ?_
  rintro e W' ⟨rfl, hd⟩
  have bel : Below W.heap.size W W' := by first | exact hd | exact hd.below
  exact ⟨_, rfl, _, _, _, [], _, [], hW', trodAll_mk1 (shut_bool Try.underlying4 _), (trodAll_cons_mk (Below.trod laidOut (by kernel_rfl) (of_decide_eq_true (by kernel_rfl)) k0 bel lt0) (trodAll_cons_mk (shut_int Try.underlying2 Q1) trodAll_mk0)), rfl, bel.frame _, fun h => by cases h⟩
theorem over : Rows.fnExactNewestOfRow.holds Try.pinned (OpenSpec.ofChange Rows.fnExactNewestOfSpec) :=
  OpenClaim.holds_of_wide 11 Try.f11 rfl rfl rfl rfl rfl rfl rfl ⟨rfl, rfl, rfl, rfl, rfl⟩ rfl rfl rfl rfl rfl (by kernel_rfl) Try.func11 (by kernel_rfl)
    (of_decide_eq_true (by kernel_rfl)) (by unfold Func.isWrapper; first | (rw [if_pos (by decide +kernel)]; kernel_rfl) | (rw [if_neg (by decide +kernel)]; exact ⟨rfl, rfl⟩))
    (fun os started H enc _ => lifted os started H enc)
theorem proved : Rows.FnExactNewestOfSaid := over
#print axioms proved
end Go.Proofs.Ytenmffpkdfbhbaa.fnExactNewestOf
namespace Go.Proofs.Ytenmffpkdfbhbaa
/-- The row, under a short name, for the claim. -/
theorem fnExactNewestOf_holds : Rows.FnExactNewestOfSaid := fnExactNewestOf.proved
end Go.Proofs.Ytenmffpkdfbhbaa
