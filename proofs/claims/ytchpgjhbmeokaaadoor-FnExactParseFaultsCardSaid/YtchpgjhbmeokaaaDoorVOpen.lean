/- What an argument reads as, told in the words of kinds: for every type made of whole numbers, bools, strings, slices and structs. No condition. -/
import Derived.Test.YtchpgjhbmeokaaaDoorVMore
import Derived.ProofKit
import Derived.OpenShut
import Derived.Deep.Slices
namespace Go.Proofs.YtchpgjhbmeokaaaDoor.Open
open Go.ChangeShapes Go.WideShapes Go.ChangeAt Go.RowKit Go.Proofs.YtchpgjhbmeokaaaDoorW.PrintWords Go.Proofs.YtchpgjhbmeokaaaDoorW.PrintLast Go.Proofs.YtchpgjhbmeokaaaDoorW.PrintMore

/-- What is read at type t is an x of kind d, of which Q holds. -/
def Tells {α : Type} (P : Program) (d : Kd α) (t : TypeId) (Q : α → Prop) : Prop :=
  ∀ (H : Type) (enc : TypeId × Value → H) (w : World) (held : Bool) (fuel : Nat) (cs : List Value) (x : DataW H × List MemPlace),
    DataW.trod enc P w 0 (fun _ => true) held fuel t cs = some x → ∃ a : α, d.K w a cs ∧ Q a
theorem Tells.imp {α : Type} {P : Program} {d : Kd α} {t : TypeId} {Q Q' : α → Prop} (h : Tells P d t Q) (hq : ∀ x, Q x → Q' x) : Tells P d t Q' := fun H enc w held fuel cs x hx => by
  obtain ⟨a, hk, hQ⟩ := h H enc w held fuel cs x hx
  exact ⟨a, hk, hq a hQ⟩
theorem op_int {P : Program} {t : TypeId} {k : IntKind} (ht : P.underlying t = some (.int k)) : Tells P (Kd.int k) t (fun n => (Lit.int k n).wf = true) := fun H enc w held fuel cs x hx => by
  obtain ⟨n, rfl, rfl, hw⟩ := DataW.trod_int ht hx
  exact ⟨n, rfl, hw⟩
theorem op_bool {P : Program} {t : TypeId} (ht : P.underlying t = some .bool) : Tells P Kd.bool t (fun _ => True) := fun H enc w held fuel cs x hx => by
  cases fuel with
  | zero => simp [DataW.trod] at hx
  | succ n =>
    unfold DataW.trod at hx
    rw [ht] at hx
    split at hx <;> simp_all
    rename_i b
    cases b
    · exact .inl rfl
    · exact .inr rfl
theorem op_string {P : Program} {t : TypeId} (ht : P.underlying t = some .string) : Tells P Kd.string t (fun s => s.size ≤ maxLen) := fun H enc w held fuel cs x hx => by
  obtain ⟨s, rfl, _, hs⟩ := DataW.trod_string ht hx
  exact ⟨s, rfl, hs⟩
theorem cells_get {w : World} {a : Addr} {n : Nat} {cs : List Value} (h : w.cells? 0 a n = some cs) : cs.length = n ∧ ∀ i u, cs[i]? = some u → w.cell? (a.add i) = some u := by
  unfold World.cells? at h
  rw [if_pos (Nat.zero_le _)] at h
  have hl := mapM_some_length h
  rw [List.length_range] at hl
  refine ⟨hl, fun i u hu => ?_⟩
  have hi : i < n := by
    have := (List.getElem?_eq_some_iff.1 hu).1
    omega
  have e := mapM_some_get h i i (by simp [hi])
  rw [e, hu]
theorem op_slice {α : Type} {P : Program} {t e : TypeId} {d : Kd α} {Q : α → Prop} (ht : P.underlying t = some (.slice e)) (hs : P.cellsOf e = d.sz) (h : Tells P d e Q) :
    Tells P (Kd.slice e d) t (fun l => l.length ≤ maxLen ∧ ∀ x ∈ l, Q x) := fun H enc w held fuel cs x hx => by
  rcases Go.Deep.open_slice ht hx with ⟨rfl, _⟩ | ⟨a, len, cap, m, n, D, Pl, rfl, _, hl, hm, hmm, _, hel⟩
  · refine ⟨[], ⟨none, 0, rfl, Nat.le_refl _, rfl, by simp, fun hp => absurd hp (by simp)⟩, by simp, fun x hx => by cases hx⟩
  · have hlm : len ≤ m := by simp at hmm; omega
    have hex : ∀ i : Nat, ∃ x : Option α, i < len → ∃ y c, x = some y ∧ c.length = d.sz ∧ d.K w y c ∧ Q y ∧ ∀ j u, c[j]? = some u → w.cell? (a.add (i * d.sz + j)) = some u := by
      intro i
      by_cases hi : i < len
      · obtain ⟨c, h1, h2⟩ := hel i (by omega)
        obtain ⟨y, hk, hq⟩ := h H enc w held n c _ h2
        obtain ⟨h3, h4⟩ := cells_get h1
        refine ⟨some y, fun _ => ⟨y, c, rfl, by rw [h3, hs], hk, hq, fun j u hu => ?_⟩⟩
        have h5 := h4 j u hu
        rw [Go.Deep.add_add, hs] at h5
        exact h5
      · exact ⟨none, fun h => absurd h hi⟩
    obtain ⟨f, hf⟩ := Classical.axiomOfChoice hex
    have hsome : ∀ i, i < len → ∃ y, f i = some y := fun i hi => by
      obtain ⟨y, _, e, _⟩ := hf i hi
      exact ⟨y, e⟩
    refine ⟨(List.range len).filterMap f, ?_⟩
    have hget : ∀ n : Nat, n ≤ len → ((List.range n).filterMap f).length = n ∧ ∀ i, i < n → ((List.range n).filterMap f)[i]? = f i := by
      intro n
      induction n with
      | zero => intro _; exact ⟨rfl, fun i hi => absurd hi (Nat.not_lt_zero _)⟩
      | succ n ih =>
        intro hn
        obtain ⟨h1, h2⟩ := ih (by omega)
        obtain ⟨y, hy⟩ := hsome n (by omega)
        have e : (List.range (n + 1)).filterMap f = (List.range n).filterMap f ++ [y] := by
          rw [List.range_succ, List.filterMap_append]
          simp [hy]
        rw [e]
        refine ⟨by simp [h1], fun i hi => ?_⟩
        by_cases hin : i < n
        · rw [List.getElem?_append_left (by omega)]
          exact h2 i hin
        · obtain rfl : i = n := by omega
          rw [List.getElem?_append_right (by omega), h1, hy]
          simp
    obtain ⟨hlen, hat⟩ := hget len (Nat.le_refl _)
    refine ⟨⟨some a, cap, ?_, ?_, ?_⟩, ?_, ?_⟩
    · rw [hlen]
    · rw [hlen]; exact hl
    · have hm' : len ≤ 9223372036854775807 := by simp only [maxLen] at hm; omega
      refine ⟨rfl, by rw [hlen]; exact hm', fun _ => ⟨a, rfl, fun j p hj => ?_⟩⟩
      have hj' : j < len := by
        have := (List.getElem?_eq_some_iff.1 hj).1
        omega
      rw [hat j hj'] at hj
      obtain ⟨y, c, e, h1, h2, _, h4⟩ := hf j hj'
      obtain rfl : y = p := Option.some.inj (e.symm.trans hj)
      exact ⟨c, h1, h2, h4⟩
    · rw [hlen]; omega
    · intro x hx
      obtain ⟨i, hi, e⟩ := List.mem_filterMap.1 hx
      obtain ⟨y, c, e2, _, _, hq, _⟩ := hf i (List.mem_range.1 hi)
      obtain rfl : y = x := Option.some.inj (e2.symm.trans e)
      exact hq
/-- A struct's fields, from the place o on. -/
def OpL {α : Type} (P : Program) (d : Kd α) (fs : List Field) (o : Nat) (Q : α → Prop) : Prop :=
  ∀ (H : Type) (enc : TypeId × Value → H) (w : World) (held : Bool) (n : Nat) (cs : List Value),
    (∀ f ∈ fs, ∃ y, DataW.trod enc P w 0 (fun _ => true) held n f.type ((cs.drop f.offset).take (P.cellsOf f.type)) = some y) → ∃ a : α, d.K w a ((cs.drop o).take d.sz) ∧ Q a
theorem opl_one {α : Type} {P : Program} {d : Kd α} {f : Field} {o : Nat} {Q : α → Prop} (h : Tells P d f.type Q) (ho : f.offset = o) (hs : P.cellsOf f.type = d.sz) : OpL P d [f] o Q := fun H enc w held n cs hf => by
  obtain ⟨y, hy⟩ := hf f (List.mem_singleton.2 rfl)
  rw [ho, hs] at hy
  exact h H enc w held n _ y hy
theorem opl_cons {α β : Type} {P : Program} {d : Kd α} {d2 : Kd β} {f : Field} {fs : List Field} {o o2 : Nat} {Q : α → Prop} {Q2 : β → Prop} (h : Tells P d f.type Q) (ho : f.offset = o) (hs : P.cellsOf f.type = d.sz) (ho2 : o + d.sz = o2)
    (k : OpL P d2 fs o2 Q2) : OpL P (Kd.pair d d2) (f :: fs) o (fun x => Q x.1 ∧ Q2 x.2) := fun H enc w held n cs hf => by
  obtain ⟨y, hy⟩ := hf f List.mem_cons_self
  rw [ho, hs] at hy
  obtain ⟨a, ka, qa⟩ := h H enc w held n _ y hy
  obtain ⟨b, kb, qb⟩ := k H enc w held n cs (fun g hg => hf g (List.mem_cons_of_mem _ hg))
  refine ⟨(a, b), ⟨(cs.drop o).take d.sz, (cs.drop o2).take d2.sz, ?_, ka, kb⟩, qa, qb⟩
  show (cs.drop o).take (d.sz + d2.sz) = _
  rw [List.take_add, List.drop_drop, ho2]
theorem op_struct {α β : Type} {P : Program} {d : Kd α} {t : TypeId} {fs : Array Field} {Q : α → Prop} {f : β → α} (g : α → β) (hg : ∀ a, f (g a) = a) (ht : P.underlying t = some (.struct fs)) (hc : P.cellsOf t = d.sz)
    (k : OpL P d fs.toList 0 Q) : Tells P (Kd.iso d f) t (fun x => Q (f x)) := fun H enc w held fuel cs x hx => by
  obtain ⟨xs, n, _, _, hl, hxs, hat⟩ := DataW.trod_struct ht hx
  obtain ⟨a, ka, qa⟩ := k H enc w held n cs (fun q hq => by
    obtain ⟨i, hi⟩ := List.getElem?_of_mem hq
    have hi' : fs[i]? = some q := by simpa using hi
    have e := hat i q hi'
    have hlt : i < xs.length := by
      have := (Array.getElem?_eq_some_iff.1 hi').1
      omega
    rw [List.getElem?_eq_getElem hlt] at e
    exact ⟨_, e⟩)
  refine ⟨g a, ?_, ?_⟩
  · show d.K w (f (g a)) cs
    rw [hg]
    have e : (cs.drop 0).take d.sz = cs := by rw [List.drop_zero, ← hc, ← hl, List.take_length]
    rw [e] at ka
    exact ka
  · show Q (f (g a))
    rw [hg]
    exact qa
/-- A struct that came in by value: its fields' cells. -/
theorem fields_of {H : Type} {enc : TypeId × Value → H} {P : Program} {w : World} {held : Bool} {fuel : Nat} {t : TypeId} {cs : List Value} {x : DataW H × List MemPlace} {fs : Array Field} (ht : P.underlying t = some (.struct fs))
    (hx : DataW.trod enc P w 0 (fun _ => true) held fuel t cs = some x) :
    ∃ n, ∀ (i : Nat) (f : Field), fs[i]? = some f → ∃ y, DataW.trod enc P w 0 (fun _ => true) held n f.type ((cs.drop f.offset).take (P.cellsOf f.type)) = some y := by
  obtain ⟨xs, n, _, _, hl, hxs, hat⟩ := DataW.trod_struct ht hx
  refine ⟨n, fun i q hi => ?_⟩
  have e := hat i q hi
  have hlt : i < xs.length := by
    have := (Array.getElem?_eq_some_iff.1 hi).1
    omega
  rw [List.getElem?_eq_getElem hlt] at e
  exact ⟨_, e⟩
theorem next_cell {l : List Value} {n : Nat} (h : l.length = n + 1) : ∃ a t, l = a :: t ∧ t.length = n := by
  cases l with
  | nil => simp at h
  | cons a t => exact ⟨a, t, rfl, by simpa using h⟩
end Go.Proofs.YtchpgjhbmeokaaaDoor.Open
