-- Written by mp.py, a program of this session over the kit's print; the session answers for it, Lean checks it.
import Derived.Test.YtgemaodbhagehaaRows
import Derived.Test.YtgemaodbhagehaaQFnExactNextSeqx7
import Derived.Test.YtgemaodbhagehaaPureFnExactNextSeq
import Derived.Test.YtgemaodbhagehaaOpen
import Derived.WalkKit
import Derived.ProofKit
import Derived.OpenShut
import Derived.ShutString
import Derived.ChangeOld
import Derived.Below
import Derived.SizedLaws
namespace Go.Proofs.Ytgemaodbhagehaa.fnExactNextSeq
open Go.ChangeShapes Go.WideShapes Go.ChangeAt Go.RowKit Go.Proofs.Ytgemaodbhagehaa.QFnExactNextSeq Go.Proofs.Ytgemaodbhagehaa.Open Go.Proofs.YtgemaodbhagehaaW.PrintWords
open Go.ChangeMaps (open_string shut_string)
set_option linter.unusedVariables false
set_option linter.unusedSimpArgs false
theorem own : ownKnob Try.prog.godebug = none := by kernel_rfl
theorem laidOut : laidOutB Try.prog = true := by kernel_rfl
theorem op23 : Tells Try.prog k23 23 wf23 :=
  (op_struct (g := fun a => (⟨a.1, a.2.1, a.2.2.1, a.2.2.2.1, a.2.2.2.2⟩ : S23)) (fun _ => rfl) Try.underlying23 (by kernel_rfl) (opl_cons (op_int Try.underlying2) rfl (by kernel_rfl) (by kernel_rfl) (opl_cons (op_int Try.underlying2) rfl (by kernel_rfl) (by kernel_rfl) (opl_cons (op_int Try.underlying2) rfl (by kernel_rfl) (by kernel_rfl) (opl_cons (op_int Try.underlying2) rfl (by kernel_rfl) (by kernel_rfl) (opl_one (op_int Try.underlying2) rfl (by kernel_rfl))))))).imp (fun _ h => h)
theorem op109 : Tells Try.prog k109 109 wf109 :=
  (op_struct (g := fun a => (⟨a.1, a.2⟩ : S109)) (fun _ => rfl) Try.underlying109 (by kernel_rfl) (opl_cons (op_int Try.underlying2) rfl (by kernel_rfl) (by kernel_rfl) (opl_one op23 rfl (by kernel_rfl)))).imp (fun _ h => h)
set_option maxHeartbeats 2000000 in
set_option maxRecDepth 100000 in
theorem lifted (os : Os) (started : os.Started) (H : Type) (enc : TypeId × Value → H) :
    ReturnsInHanded {} Try.checked os 14 .any (Rows.fnExactNextSeqSpec.pre6 enc Try.prog Try.f14 Rows.fnExactNextSeqRow.domain false) (Rows.fnExactNextSeqSpec.post enc Try.prog Try.f14 false true false false) := by
  refine returnsInHanded_of_change_sized (C := Try.checked) own started (by kernel_rfl) Try.func14
    (ChangeSpec.witness6 (enc := enc) (C := Try.checked) false ⟨#[], #[.slice none 0 0], []⟩ 8 (by kernel_rfl) (by kernel_rfl) (by kernel_rfl) (by kernel_rfl)) ?_
  intro W base args ds gs before hval0 hW hcnd hsz0 _
  have hval : ∀ (j : Nat) t v, Try.f14.params[j]? = some t → args[j]? = some v → Value.okWide Try.prog W .any base t v := hval0
  have hW' := hW
  obtain ⟨p, q, hA0, hV, rfl, hfz, hnd⟩ := hW
  have hA : DataW.TrodAll enc Try.prog W 0 (fun _ => true) true Try.f14.params.toList args.toList ds p := hA0
  rw [Try.params14] at hA hval
  obtain ⟨v0, vs0, d0, ds0, p0, q0, hargs, rfl, rfl, h0, r0⟩ := trodAll_cons hA
  obtain ⟨rfl, rfl, rfl⟩ := trodAll_nil r0
  obtain rfl : args = #[v0] := by cases args; simp_all
  obtain ⟨rfl, rfl⟩ := trodVars_none hV
  obtain ⟨a0, len0, cap0, rfl⟩ := okWide_slice Try.underlying76 (hval 0 76 v0 rfl rfl)
  have k0 := h0
  have lt0 : ∀ x ∈ p0, x.block < W.heap.size := by obtain ⟨m, hm⟩ := k0; exact DataW.trod_lt m _ _ _ hm
  obtain ⟨fuel0, hf0⟩ := h0
  have g0 : DataW.trod enc Try.prog W 0 (fun _ => true) true fuel0 76 [.slice a0 len0 cap0] = _ := hf0
  obtain ⟨l0, K0, Q0⟩ := (op_slice (e := 109) Try.underlying76 (by kernel_rfl) op109) _ _ _ _ _ _ _ g0
  obtain ⟨A0, c0, e0, hc0, hr0⟩ := K0
  obtain ⟨rfl, rfl, rfl⟩ := Value.slice.inj (List.cons.inj e0).1
  clear hA0 hval0 hsz0
  obtain ⟨k, hp⟩ := Pure.FnExactNextSeq l0 Q0
  refine (laws_FnExactNextSeq.calls k _ _ l0 true W hr0 hc0 rfl hp).mono ?_
  rintro e W' ⟨rfl, hd⟩
  have bel : Below W.heap.size W W' := by first | exact hd | exact hd.below
  exact ⟨_, rfl, _, _, _, [], _, [], hW', trodAll_mk1 (shut_bool Try.underlying4 _), (trodAll_cons_mk (Below.trod laidOut (by kernel_rfl) (of_decide_eq_true (by kernel_rfl)) k0 bel lt0) trodAll_mk0), rfl, bel.frame _, fun h => by cases h⟩
theorem over : Rows.fnExactNextSeqRow.holds Try.pinned (OpenSpec.ofChange Rows.fnExactNextSeqSpec) :=
  OpenClaim.holds_of_wide 14 Try.f14 rfl rfl rfl rfl rfl rfl rfl ⟨rfl, rfl, rfl, rfl, rfl⟩ rfl rfl rfl rfl rfl (by kernel_rfl) Try.func14 (by kernel_rfl)
    (of_decide_eq_true (by kernel_rfl)) (by unfold Func.isWrapper; first | (rw [if_pos (by decide +kernel)]; kernel_rfl) | (rw [if_neg (by decide +kernel)]; exact ⟨rfl, rfl⟩))
    (fun os started H enc _ => lifted os started H enc)
theorem proved : Rows.FnExactNextSeqSaid := over
#print axioms proved
end Go.Proofs.Ytgemaodbhagehaa.fnExactNextSeq
namespace Go.Proofs.Ytgemaodbhagehaa
/-- The row, under a short name, for the claim. -/
theorem fnExactNextSeq_holds : Rows.FnExactNextSeqSaid := fnExactNextSeq.proved
end Go.Proofs.Ytgemaodbhagehaa
