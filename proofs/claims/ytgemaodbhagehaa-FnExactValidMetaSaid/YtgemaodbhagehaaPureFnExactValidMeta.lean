/- The pure statement of FnExactValidMeta holds: the program's ValidMeta and the reference's answer the same for all metadata. No condition. -/
import Derived.Test.YtgemaodbhagehaaQFnExactValidMetax3
import Derived.Test.YtgemaodbhagehaaLem
namespace Go.Proofs.Ytgemaodbhagehaa.Pure
open Go.RowKit Go.Proofs.Ytgemaodbhagehaa.QFnExactValidMeta Go.Proofs.YtgemaodbhagehaaW.PrintWords Go.Proofs.YtgemaodbhagehaaW.PrintLast

open Go.Proofs.Ytgemaodbhagehaa.Lem
def inB (x lo hi : Int) : Bool := decide (lo ≤ x) && decide (x ≤ hi)
theorem inB_true {x lo hi : Int} (h : inB x lo hi = true) : lo ≤ x ∧ x ≤ hi := by simpa [inB] using h
theorem win (x lo hi : Int) : impl_within.f x lo hi = some (inB x lo hi) := by
  unfold impl_within.f inB
  by_cases h : x ≥ lo
  · rw [if_pos h]
    have h2 : lo ≤ x := h
    simp [h2]
  · rw [if_neg h]
    have h2 : ¬ lo ≤ x := h
    simp [h2]
theorem sin (x lo hi : Int) : spec_l00In.f x lo hi = some (inB x lo hi) := win x lo hi
def metaB (a b c d e : Int) : Bool :=
  if a = 4 then (b == 0 && (c == 0 && (d == 0 && e == 0))) else
  inB b 0 47 && (inB c 1 1000000 && (if a = 1 ∨ a = 3 then d == 0 && e == 0 else if a = 2 then inB e 1 4 && (inB d 1 c && decide (c - d < e)) else false))
theorem meta_spec (k : Nat) (a b c d e : Int) (hd : (Lit.int .i64 d).wf = true) (he : (Lit.int .i64 e).wf = true) : spec_ValidMeta.f (k + 2) a b c d e = some (metaB a b c d e) := by
  have bd := bounds_i64 hd
  have be := bounds_i64 he
  unfold spec_ValidMeta.f metaB
  by_cases h4 : a = 4
  · rw [if_pos h4, if_pos h4]
    by_cases b0 : b = 0 <;> by_cases c0 : c = 0 <;> by_cases d0 : d = 0 <;> simp [b0, c0, d0]
  · rw [if_neg h4, if_neg h4, sin]
    simp only [Option.bind_some]
    cases hb : inB b 0 47
    · simp [spec_ValidMeta.j0]
    · rw [if_pos rfl, sin]
      simp only [Option.bind_some]
      cases hc : inB c 1 1000000
      · simp [spec_ValidMeta.j0]
      · have bc := inB_true hc
        rw [spec_ValidMeta.j0, if_neg (by simp)]
        by_cases h1 : a = 1
        · subst h1
          rw [if_pos rfl, spec_ValidMeta.j1, if_pos (by decide)]
          by_cases d0 : d = 0 <;> simp [d0]
        · by_cases h3 : a = 3
          · subst h3
            rw [if_neg h1, spec_ValidMeta.j1, if_pos (by decide)]
            by_cases d0 : d = 0 <;> simp [d0]
          · have e3 : (a == 3) = false := by simpa using h3
            rw [if_neg h1, spec_ValidMeta.j1, e3, if_neg (by simp)]
            by_cases h2 : a = 2
            · subst h2
              rw [if_pos rfl, sin]
              simp only [Option.bind_some]
              cases ee : inB e 1 4
              · simp
              · rw [if_pos rfl, sin]
                simp only [Option.bind_some]
                cases ed : inB d 1 c
                · simp
                · have e2 := inB_true ed
                  rw [if_pos rfl, w64 (by omega) (by omega)]
                  simp
            · rw [if_neg h2]
              simp [h1, h2, h3]
theorem meta_impl (k : Nat) (a b c d e : Int) (hd : (Lit.int .i64 d).wf = true) (he : (Lit.int .i64 e).wf = true) : impl_ValidMeta.f (k + 2) a b c d e = some (metaB a b c d e) := by
  have bd := bounds_i64 hd
  have be := bounds_i64 he
  unfold impl_ValidMeta.f metaB
  by_cases h4 : a = 4
  · rw [if_pos h4, if_pos h4]
    simp [h4]
  · rw [if_neg h4, if_neg h4, win]
    simp only [Option.bind_some]
    cases hb : inB b 0 47
    · simp [impl_ValidMeta.j0]
    · rw [if_pos rfl, win]
      simp only [Option.bind_some]
      cases hc : inB c 1 1000000
      · simp [impl_ValidMeta.j0]
      · have bc := inB_true hc
        rw [impl_ValidMeta.j0, if_neg (by simp)]
        by_cases h1 : a = 1
        · subst h1
          rw [if_pos rfl, impl_ValidMeta.j1, if_pos (by decide)]
          by_cases d0 : d = 0 <;> simp [d0]
        · by_cases h3 : a = 3
          · subst h3
            rw [if_neg h1, impl_ValidMeta.j1, if_pos (by decide)]
            by_cases d0 : d = 0 <;> simp [d0]
          · have e3 : (a == 3) = false := by simpa using h3
            rw [if_neg h1, impl_ValidMeta.j1, e3, if_neg (by simp)]
            by_cases h2 : a = 2
            · subst h2
              rw [if_pos rfl, win]
              simp only [Option.bind_some]
              cases ee : inB e 1 4
              · simp
              · have e4 := inB_true ee
                rw [if_pos rfl]
                by_cases d1 : d ≥ 1
                · rw [if_pos d1, win]
                  simp only [Option.bind_some]
                  have d1' : 1 ≤ d := d1
                  have key : inB c d (wrap64 ((wrap64 (d + e)) - 1)) = (inB d 1 c && decide (c - d < e)) := by
                    unfold inB
                    by_cases dc : d ≤ c
                    · rw [w64 (n := d + e) (by omega) (by omega), w64 (by omega) (by omega)]
                      rw [Bool.eq_iff_iff]
                      simp
                      omega
                    · simp [dc]
                  rw [key]
                  simp
                · rw [if_neg d1]
                  have d2 : ¬ 1 ≤ d := d1
                  simp [inB, d2]
            · rw [if_neg h2]
              simp [h1, h2, h3]
theorem FnExactValidMeta : laws_FnExactValidMeta.Pure := by
  intro a b c d e h0 h1 h2 h3 h4
  refine ⟨2, ?_⟩
  unfold laws_FnExactValidMeta.f laws_toPageMeta.f
  simp only [Option.bind_some]
  have e1 : spec_ValidMeta.f 2 a b c d e = _ := meta_spec 0 a b c d e h3 h4
  have e2 : impl_ValidMeta.f 2 a b c d e = _ := meta_impl 0 a b c d e h3 h4
  rw [e1, e2]
  simp

end Go.Proofs.Ytgemaodbhagehaa.Pure
