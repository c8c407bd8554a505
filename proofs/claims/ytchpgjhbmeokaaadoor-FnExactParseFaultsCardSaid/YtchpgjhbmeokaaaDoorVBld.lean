/- strings.Builder at this program: copyCheck and WriteString, with the frame that reaches above the builder; strconv.FormatInt at base 10. -/
import Derived.Test.YtchpgjhbmeokaaaDoorShelf
import Derived.Lib.OthersKept
import Derived.Lib.AppendIntMem
import Derived.WalkKit
import Derived.Test.YtchpgjhbmeokaaaDoorVWords
set_option linter.unusedVariables false
namespace Go.Proofs.YtchpgjhbmeokaaaDoor.Bld
open Go Go.Proofs Go.RowKit Go.Proofs.YtchpgjhbmeokaaaDoorW.PrintWords
set_option maxHeartbeats 2000000
set_option maxRecDepth 100000
abbrev BX := Tryd.Builder_Extra_169
theorem check_used (b : Nat) (w : World) (h0 : w.cell? ⟨b, 0, none⟩ = some (.pointer (some ⟨b, 0, none⟩))) :
    Calls Tryd.prog 49 #[.pointer (some ⟨b, 0, none⟩)] w fun e w' => e = .returned (.tuple #[]) ∧ w' = w := by
  obtain ⟨j, hj, _⟩ := Option.map_eq_some_iff.1 BX.toX72.sizeBuilder
  have hu59 := Tryd.underlying59
  have hu62 := Tryd.underlying62
  go_enter Tryd.func49, Tryd.ntmps49
  go_wp2
  rw [Lib.run_neq_ptr_same w _ Tryd.underlying59 hj]
  go_wp2
  go_end0
  exact ⟨rfl, rfl⟩
theorem check_fresh (b : Nat) (w : World) (h0 : w.cell? ⟨b, 0, none⟩ = some (.pointer none)) (hsh : w.shape? b = some (62, 2)) (hfz : w.frozen? ⟨b, 0, none⟩ = false) :
    Calls Tryd.prog 49 #[.pointer (some ⟨b, 0, none⟩)] w fun e w' => e = .returned (.tuple #[]) ∧ w' = w.setCell ⟨b, 0, none⟩ (.pointer (some ⟨b, 0, none⟩)) := by
  obtain ⟨j, hj, hjs⟩ := Option.map_eq_some_iff.1 BX.toX72.sizeBuilder
  have hu59 := Tryd.underlying59
  have hu62 := Tryd.underlying62
  go_enter Tryd.func49, Tryd.ntmps49
  go_wp2
  rw [Lib.run_to_unsafe w ⟨b, 0, none⟩ Tryd.underlying59 Tryd.underlying88 hj (by rw [hjs]; decide) hsh (Nat.zero_lt_succ 1)]
  simp only [Result.andThen]
  rw [Oper.upon_value]
  go_wp2
  rw [run_callFunc_extern Tryd.func55 (by kernel_rfl) (by kernel_rfl) (by kernel_rfl) (e := Extern.AbiNoEscape.same) (by kernel_rfl)]
  rw [Lib.run_noEscape]
  simp only [Result.andThen]
  rw [Oper.upon_value]
  go_wp2
  rw [Lib.run_from_unsafe w ⟨b, 0, none⟩ Tryd.underlying88 Tryd.underlying59 hj hsh BX.toX72.liesBuilder]
  simp only [Result.andThen]
  rw [Oper.upon_value]
  go_wp2
  go_end0
  exact ⟨rfl, rfl⟩
theorem check (B b : Nat) (bs : List Value) (w : World) (h : Lib.IsBuilder 62 5 B b bs w) :
    Calls Tryd.prog 49 #[.pointer (some ⟨b, 0, none⟩)] w fun e w' => e = .returned (.tuple #[]) ∧ (Lib.BuilderAt 62 5 B b (.pointer (some ⟨b, 0, none⟩)) bs w' ∧ Below B w w' ∧ Lib.OthersKept 5 (some b) w w') := by
  rcases h with h | h
  · refine (check_fresh b w h.cell0 h.shape h.frozen0).mono ?_
    rintro e w' ⟨rfl, rfl⟩
    exact ⟨rfl, h.used _, (Below.refl B w).setCell (p := ⟨b, 0, none⟩) h.1 _, (Lib.OthersKept.refl _ _ w).setCell ⟨b, 0, none⟩ rfl _⟩
  · refine (check_used b w h.cell0).mono ?_
    rintro e w' ⟨rfl, rfl⟩
    exact ⟨rfl, h, Below.refl B _, Lib.OthersKept.refl _ _ _⟩
theorem writeString (B b : Nat) (bs : List Value) (s : ByteArray) (w : World) (h : Lib.IsBuilder 62 5 B b bs w) (hlen : bs.length + s.size ≤ 140737488355328) (hBw : B ≤ w.heap.size) :
    Calls Tryd.prog 33 #[.pointer (some ⟨b, 0, none⟩), .string s] w fun e w' => e = .returned (.tuple #[.int .i64 s.size, .nilIface]) ∧ (Lib.IsBuilder 62 5 B b (bs ++ Lib.strCells s) w' ∧ Below B w w' ∧ Lib.OthersKept 5 (some b) w w') := by
  obtain ⟨i0, hi, hz0, hz1, hz2⟩ := info_parts BX.infoByte
  have hu59 := Tryd.underlying59
  have hu62 := Tryd.underlying62
  have hu60 := Tryd.underlying60
  go_enter Tryd.func33, Tryd.ntmps33
  go_wp2_with (go_at_call 49; refine (check B b bs _ h).mono ?_)
  rintro e w1 ⟨rfl, h1, hb1, hk1⟩
  obtain ⟨hB, v, hbk, hown, hne⟩ := h1
  have c0 : w1.cell? ⟨b, 0, none⟩ = some (.pointer (some ⟨b, 0, none⟩)) := by rw [Lib.cell_of_heap hbk]; rfl
  have c1 : w1.cell? ⟨b, 1, none⟩ = some v := by rw [Lib.cell_of_heap hbk]; rfl
  go_wp2_with (at_builtin; refine Lib.wpList_append_own_string _ rfl _ _ 60 9 rfl B 5 i0 Tryd.underlying60 Tryd.underlying9 hi hz0 hz1 hz2 _ _ _ rfl hown s rfl ?c3 ?c4 ?c5 ?_)
  case c3 => unfold maxLen; omega
  case c4 => omega
  case c5 => have := hb1.size; omega
  intro v' w2 hown' hgrow _
  have hlt : b < w1.heap.size := by
    rcases Nat.lt_or_ge b w1.heap.size with h' | h'
    · exact h'
    · simp [Array.getElem?_eq_none h'] at hbk
  have hb2 : w2.heap[b]? = some (.cells #[.pointer (some ⟨b, 0, none⟩), v] 62 (0, 0)) := by
    rw [hgrow.block b hlt (fun e => hne e.symm)]
    exact hbk
  have d0 : w2.cell? ⟨b, 0, none⟩ = some (.pointer (some ⟨b, 0, none⟩)) := by rw [Lib.cell_of_heap hb2]; rfl
  have d1 : w2.cell? ⟨b, 1, none⟩ = some v := by rw [Lib.cell_of_heap hb2]; rfl
  have f1 : w2.frozen? ⟨b, 1, none⟩ = false := Lib.frozen_of_heap hb2 1
  obtain ⟨ao, n', cap, rfl⟩ : ∃ ao n' cap, v' = .slice ao n' cap := by
    rcases hown'.2 with ⟨hv, _⟩ | ⟨g, cap, cur, hv, _⟩
    · exact ⟨_, _, _, hv⟩
    · exact ⟨_, _, _, hv⟩
  go_wp2
  go_ret2
  refine ⟨rfl, .inr ?_, ?_, (hk1.grown hgrow (Lib.ownsRowF_kind (World.ownsRowF_of hown))).setCell ⟨b, 1, none⟩ rfl _⟩
  · exact Lib.BuilderAt.put (T := 62) (e := 5) hB hb2 (bs' := bs ++ Lib.strCells s) (by simpa [Lib.strCells_length] using hown') BX.neB5
  · exact (hb1.grown hgrow (by have := hb1.size; omega) (fun k hk => (hown.lt k hk).1)).setCell (p := ⟨b, 1, none⟩) hB _
/-- What the table of powers says stays so while what lies below stands. -/
def Tab (w : World) : Prop := Lib.TabIs Tryd.prog w "internal/strconv.uint64pow10" .u64 Lib.pow10Tab
theorem Tab.below {w w' : World} (h : Tab w) (hb : Below w.heap.size w w') : Tab w' := Lib.tabBelow_of_tabIs h w' hb
theorem decimal (n : Int) (h0 : -9223372036854775808 ≤ n) (h1 : n ≤ 9223372036854775807) (w : World) (ht : Tab w) :
    Calls Tryd.prog 36 #[.int .i64 n] w fun e w' => e = .returned (.string ⟨(Lib.itoa n).toArray⟩) ∧ Below w.heap.size w w' := by
  have hu9 := Tryd.underlying9
  go_enter Tryd.func36, Tryd.ntmps36
  go_wp2_with (go_at_call 50; refine (Tryd.strconv_FormatInt_10 n h0 h1 _ ht).mono ?_; rintro e w' ⟨rfl, k, os, hw⟩)
  go_ret
  exact ⟨rfl, by subst hw; exact Lib.below_grow _ _ (Nat.le_refl _) _ _⟩
/-- A builder stands while what lies below the heap's end stands. -/
theorem at_below {B b : Nat} {p : Value} {bs : List Value} {W W2 : World} (h : Lib.BuilderAt 62 5 B b p bs W) (hb : Below W.heap.size W W2) : Lib.BuilderAt 62 5 B b p bs W2 := by
  obtain ⟨h0, v, h1, h2, h3⟩ := h
  have lt : ∀ {g : Nat} {o : Obj}, W.heap[g]? = some o → W2.heap[g]? = some o := fun {g o} hg => (hb.block g (Array.getElem?_eq_some_iff.1 hg).1).trans hg
  refine ⟨h0, v, lt h1, ⟨h2.1, ?_⟩, h3⟩
  rcases h2.2 with h | ⟨g, cap, cur, e1, e2, e3, e4⟩
  · exact .inl h
  · exact .inr ⟨g, cap, cur, e1, e2, lt e3, e4⟩
/-- Block k is the builder's, or a row of bytes. -/
def bldB (W : World) (b k : Nat) : Prop := k = b ∨ ∃ c fz, W.heap[k]? = some (.cells c 5 fz)
structure St (w W : World) (acc : List UInt8) : Prop where
  b : Lib.IsBuilder 62 5 w.heap.size w.heap.size (Lib.byteCells acc) W
  below : Below w.heap.size w W
theorem St.next {w W W2 : World} {acc : List UInt8} (h : St w W acc) (hb : Below W.heap.size W W2) : St w W2 acc :=
  ⟨h.b.elim (fun x => .inl (at_below x hb)) (fun x => .inr (at_below x hb)), h.below.trans ⟨hb.os, hb.tape, hb.output, hb.size, fun i hi => hb.block i (Nat.lt_of_lt_of_le hi h.below.size)⟩⟩
theorem St.box {w W : World} {acc : List UInt8} (h : St w W acc) : ∃ p v, W.heap[w.heap.size]? = some (.cells #[p, v] 62 (0, 0)) := by
  rcases h.b with h | h <;> (obtain ⟨_, v, h1, _⟩ := h; exact ⟨_, v, h1⟩)
theorem St.not_bld {w W : World} {acc : List UInt8} {k t : Nat} {cells : Array Value} (h : St w W acc) (hk : W.heap[k]? = some (.cells cells t (0, 0))) (h1 : t ≠ 62) (h2 : t ≠ 5) : ¬ bldB W w.heap.size k := by
  rintro (rfl | ⟨c, fz, hc⟩)
  · obtain ⟨p, v, e⟩ := h.box
    rw [hk] at e
    injection e with e
    injection e with _ e
    exact h1 e
  · rw [hk] at hc
    injection hc with e
    injection e with _ e
    exact h2 e
theorem write {w W : World} {acc : List UInt8} (h : St w W acc) (s : ByteArray) (hlen : acc.length + s.size ≤ 140737488355328) :
    Calls Tryd.prog 33 #[.pointer (some ⟨w.heap.size, 0, none⟩), .string s] W fun e W2 => e = .returned (.tuple #[.int .i64 s.size, .nilIface]) ∧ St w W2 (acc ++ s.data.toList) ∧ W.heap.size ≤ W2.heap.size ∧ ∀ i, i < W.heap.size → ¬ bldB W w.heap.size i → W2.heap[i]? = W.heap[i]? := by
  refine (writeString w.heap.size w.heap.size (Lib.byteCells acc) s W h.b (by rw [Lib.byteCells_length]; exact hlen) h.below.size).mono ?_
  rintro e W2 ⟨rfl, h1, h2, h3⟩
  refine ⟨rfl, ⟨?_, h.below.trans h2⟩, h2.size, fun i hi hn => ?_⟩
  · have e : Lib.byteCells acc ++ Lib.strCells s = Lib.byteCells (acc ++ s.data.toList) := by
      rw [Lib.strCells_eq]
      unfold Lib.byteCells
      rw [List.map_append]
    rw [← e]
    exact h1
  · have hg : W.heap[i]? = some W.heap[i] := Array.getElem?_eq_getElem hi
    rw [hg]
    exact h3 i _ hg (fun e => hn (.inl (Option.some.inj e))) (fun c fz e => hn (.inr ⟨c, fz, by rw [hg, e]⟩))
theorem string {w W : World} {acc : List UInt8} (h : St w W acc) :
    Calls Tryd.prog 37 #[.pointer (some ⟨w.heap.size, 0, none⟩)] W fun e W2 => e = .returned (.string ⟨acc.toArray⟩) ∧ Below w.heap.size w W2 := by
  refine (Tryd.Builder_String_any w.heap.size w.heap.size acc W h.b h.below.size).mono ?_
  rintro e W2 ⟨rfl, h1⟩
  exact ⟨rfl, h.below.trans h1⟩
theorem start (w : World) : St w (w.alloc (.cells #[.pointer none, .slice none 0 0] 62)) [] := ⟨Lib.fresh_isBuilder 62 5 w, (Below.refl _ w).alloc (Nat.le_refl _) _⟩
theorem Tab.st {w W : World} {acc : List UInt8} (h : Tab w) (s : St w W acc) : Tab W := h.below s.below
theorem start2 {w w1 : World} (hbox : w1.heap[w.heap.size]? = some (.cells #[.pointer none, .slice none 0 0] 62 (0, 0))) (hb : Below w.heap.size w w1) : St w w1 [] :=
  ⟨.inl ⟨Nat.le_refl _, _, hbox, ⟨rfl, .inl ⟨rfl, rfl⟩⟩, fun h => by cases h⟩, hb⟩
theorem St.drew {w W : World} {acc : List UInt8} (h : St w W acc) : St w W.drew acc := h.next ((Below.refl W.heap.size W).drew)
theorem St.drewN {w W : World} {acc : List UInt8} (h : St w W acc) (m : Nat) : St w (W.drewN m) acc := by
  exact h.next (pw_below_drewN (Below.refl _ W) m)
def st4 (w : World) (g : Nat) (c0 c1 c2 c3 : Value) : World := (((w.setCell ⟨g, 0, none⟩ c0).setCell ⟨g, 1, none⟩ c1).setCell ⟨g, 2, none⟩ c2).setCell ⟨g, 3, none⟩ c3
theorem st4_same {w : World} {g t : Nat} {c0 c1 c2 c3 z0 z1 z2 z3 : Value} (h : w.heap[g]? = some (.cells #[z0, z1, z2, z3] t (0, 0))) : (st4 w g c0 c1 c2 c3).heap[g]? = some (.cells #[c0, c1, c2, c3] t (0, 0)) := by
  have h4 := heap_setCell_same _ g 3 _ t c3 (heap_setCell_same _ g 2 _ t c2 (heap_setCell_same _ g 1 _ t c1 (heap_setCell_same w g 0 _ t c0 h)))
  simp only [List.setIfInBounds_toArray, List.set_cons_zero, List.set_cons_succ] at h4
  exact h4
theorem st4_below {B : Nat} {a w : World} {g : Nat} {c0 c1 c2 c3 : Value} (h : Below B a w) (hg : B ≤ g) : Below B a (st4 w g c0 c1 c2 c3) := by
  unfold st4
  exact (((h.setCell (p := ⟨g, 0, none⟩) hg _).setCell (p := ⟨g, 1, none⟩) hg _).setCell (p := ⟨g, 2, none⟩) hg _).setCell (p := ⟨g, 3, none⟩) hg _
theorem far4 {W : World} {g : Nat} {a : Addr} {v c0 c1 c2 c3 : Value} (h : W.cell? a = some v) (hne : a.block ≠ g) : ((((W.setCell ⟨g, 0, none⟩ c0).setCell ⟨g, 1, none⟩ c1).setCell ⟨g, 2, none⟩ c2).setCell ⟨g, 3, none⟩ c3).cell? a = some v :=
  (cell_far (p := ⟨g, 3, none⟩) hne c3).trans ((cell_far (p := ⟨g, 2, none⟩) hne c2).trans ((cell_far (p := ⟨g, 1, none⟩) hne c1).trans ((cell_far (p := ⟨g, 0, none⟩) hne c0).trans h)))
end Go.Proofs.YtchpgjhbmeokaaaDoor.Bld
