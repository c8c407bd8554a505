/- A row of the call's own that a library function has rewritten in place: what it owns behind it. No condition. -/
import Derived.Test.YtchpgjhbmeokaaaVMore
import Derived.Sort.OwnSorted
namespace Go.Proofs.Ytchpgjhbmeokaaa.Own
open Go.Sort Go.Proofs Go.RowKit Go.Proofs.YtchpgjhbmeokaaaW.PrintWords Go.Proofs.YtchpgjhbmeokaaaW.PrintLast Go.Proofs.YtchpgjhbmeokaaaW.PrintMore
theorem heap_put {α : Type} [Inhabited α] (enc : α → Value) {w : World} {g n : Nat} {os : Array Obj} {cur : Array Value} {e : TypeId} {fr : Nat × Nat} (d : Array α) (hb : w.heap[g]? = some (.cells cur e fr)) :
    (grow (putRow enc (Sort.ahead w n) g 0 d) os).heap[g]? = some (.cells (putCells enc 0 d cur) e fr) := by
  have hg : g < w.heap.size := (Array.getElem?_eq_some_iff.1 hb).1
  rw [heap_grow_old _ _ (by simpa using hg)]
  simp [putRow, mapBlock, Sort.ahead, Array.getElem?_modify, hb, onCells]
theorem grown_put {α : Type} [Inhabited α] (enc : α → Value) {w : World} {g n : Nat} {os : Array Obj} (d : Array α) : w.grownBy (grow (putRow enc (Sort.ahead w n) g 0 d) os) (some g) := by
  refine ⟨rfl, rfl, rfl, by simp, fun k hk hne => ?_⟩
  rw [heap_grow_old _ _ (by simpa using hk)]
  have : g ≠ k := fun e => hne (by rw [e])
  simp [putRow, mapBlock, Sort.ahead, Array.getElem?_modify, this]
theorem take_put {α : Type} [Inhabited α] (enc : α → Value) (cur : Array Value) (ts : List α) (m : Nat) (hm : m ≤ ts.length) (h : ts.length ≤ cur.size) : (putCells enc 0 ts.toArray cur).toList.take m = (ts.take m).map enc := by
  apply List.ext_getElem?
  intro j
  by_cases hj : j < m
  · have hj2 : j < ts.length := by omega
    have hj3 : j < cur.size := by omega
    rw [List.getElem?_take_of_lt hj, Array.getElem?_toList]
    simp [putCells, hj, hj2, hj3]
  · rw [List.getElem?_take_eq_none (by omega), List.getElem?_eq_none (by simp; omega)]
theorem own_put {α : Type} [Inhabited α] (enc : α → Value) {w : World} {base g cap n m : Nat} {e : TypeId} {os : Array Obj} {cur : Array Value} (ts : List α) (hm : m ≤ ts.length) (hbase : base ≤ g) (hb : w.heap[g]? = some (.cells cur e (0, 0)))
    (h1 : ts.length ≤ cap) (h2 : cap ≤ maxLen) (h3 : cur.size = cap * 1) :
    (grow (putRow enc (Sort.ahead w n) g 0 ts.toArray) os).ownsRow base e 1 (.slice (some ⟨g, 0, none⟩) m cap) m ((ts.take m).map enc) :=
  ⟨by simp; omega, .inr ⟨g, cap, _, rfl, hbase, heap_put enc _ hb, by omega, h2, by simp [putCells, h3], by rw [Nat.mul_one]; exact take_put enc cur ts m hm (by omega)⟩⟩
theorem holds_own {α : Type} [Inhabited α] (enc : α → Value) {w : World} {g : Nat} {cur : Array Value} {e : TypeId} {ss : List α} (hb : w.heap[g]? = some (.cells cur e (0, 0))) (ht : cur.toList.take ss.length = ss.map enc) : Holds enc w g 0 ss.toArray := by
  intro j hj
  have hj' : j < ss.length := by simpa using hj
  refine ⟨?_, by simp [World.frozen?, hb]⟩
  have h1 : (cur.toList.take ss.length)[j]? = (ss.map enc)[j]? := by rw [ht]
  rw [List.getElem?_take_of_lt hj'] at h1
  simp only [World.cell?, hb, Nat.zero_add]
  simp only [Option.isSome_none, Bool.false_eq_true, if_false]
  rw [← Array.getElem?_toList, h1]
  simp [hj']
/-- A row of one cell an element, opened: nil, or a block of its own. -/
theorem R_open {α : Type} {enc : α → Value} {h1 : ∀ x, (enc x).oneCell' = true} {e : Nat} {w : World} {base : Nat} {ok : Nat → Prop} {v : Value} {xs : List α} (h : (Kd.scalar enc h1).R e w base ok v xs) :
    (v = .slice none 0 0 ∧ xs = []) ∨ ∃ g cap cur, v = .slice (some ⟨g, 0, none⟩) xs.length cap ∧ base ≤ g ∧ ok g ∧ w.heap[g]? = some (.cells cur e (0, 0)) ∧ xs.length ≤ cap ∧ cap ≤ maxLen ∧ cur.size = cap * 1 ∧ cur.toList.take xs.length = xs.map enc := by
  obtain ⟨hl, ho⟩ := Kd.own_of_R h
  rcases ho with ⟨rfl, hz⟩ | ⟨g, cap, cur, rfl, h2, h3, h4, h5, h6, h7⟩
  · exact .inl ⟨rfl, List.eq_nil_of_length_eq_zero hz⟩
  · refine .inr ⟨g, cap, cur, rfl, h2, h.1 g rfl, h3, h4, h5, h6, ?_⟩
    rw [Nat.mul_one] at h7
    rw [h7]
    rfl
/-- Behind a rewriting in place: a row again, cut to its first m elements. -/
theorem R_put {α : Type} [Inhabited α] (enc : α → Value) (h1 : ∀ x, (enc x).oneCell' = true) {w : World} {base g cap n m : Nat} {ok : Nat → Prop} {e : TypeId} {os : Array Obj} {cur : Array Value} (ts : List α) (hm : m ≤ ts.length) (hbase : base ≤ g) (hok : ok g) (hb : w.heap[g]? = some (.cells cur e (0, 0)))
    (hc : ts.length ≤ cap) (h2 : cap ≤ maxLen) (h3 : cur.size = cap * 1) :
    (Kd.scalar enc h1).R e (grow (putRow enc (Sort.ahead w n) g 0 ts.toArray) os) base ok (.slice (some ⟨g, 0, none⟩) m cap) (ts.take m) := by
  refine Kd.R_of_own ?_ (fun k hk => ?_)
  · have e2 : (ts.take m).length = m := by simp; omega
    rw [e2]
    exact own_put enc ts hm hbase hb hc h2 h3
  · obtain rfl : g = k := by simpa [Value.ownBlock] using hk
    exact hok
end Go.Proofs.Ytchpgjhbmeokaaa.Own
