/- What ParseFaults' callees ask of the world, and strings.Split and strconv.ParseInt in the print's words. -/
import Derived.Test.YtchpgjhbmeokaaaDoorVBld
import Derived.Test.YtchpgjhbmeokaaaDoorShelf2
import Derived.Lib.AtoiErrMem
import Derived.Lib.SplitLaws
set_option linter.unusedVariables false
namespace Go.Proofs.YtchpgjhbmeokaaaDoor.Bld
open Go Go.Proofs Go.RowKit Go.Proofs.YtchpgjhbmeokaaaDoorW.PrintWords
structure G0 (w : World) : Prop where
  tab : Tab w
  max : ∃ m, w.cell? ⟨0, 0, none⟩ = some (.int .i64 m)
  syn : ∃ tp p, w.var? Tryd.prog "strconv.ErrSyntax" = some #[.iface tp p]
  rng : ∃ tp p, w.var? Tryd.prog "strconv.ErrRange" = some #[.iface tp p]
theorem var_below {w w' : World} {n : String} {v : Array Value} (h : w.var? Tryd.prog n = some v) (hb : Below w.heap.size w w') : w'.var? Tryd.prog n = some v := by
  unfold World.var? at *
  cases hg : Tryd.prog.globalNamed n with
  | none => simp [hg] at h
  | some g =>
    simp only [hg, Option.bind_some] at h ⊢
    have hlt : g < w.heap.size := by
      rcases Nat.lt_or_ge g w.heap.size with h' | h'
      · exact h'
      · rw [Array.getElem?_eq_none h'] at h; simp at h
    rw [hb.block g hlt]
    exact h
theorem G0.below {w w' : World} (h : G0 w) (hb : Below w.heap.size w w') : G0 w' := by
  obtain ⟨h1, ⟨m, h2⟩, ⟨t3, p3, h3⟩, ⟨t4, p4, h4⟩⟩ := h
  exact ⟨h1.below hb, ⟨m, (hb.cell (World.block_lt_of_cell? w _ h2)).trans h2⟩, ⟨t3, p3, var_below h3 hb⟩, ⟨t4, p4, var_below h4 hb⟩⟩
theorem split (s sep : ByteArray) (w : World) (hg : G0 w) (hs : s.size < 4294967281) (h1 : 1 ≤ sep.size) :
    Calls Tryd.prog 43 #[.string s, .string sep] w fun e w' => ∃ v0_ : Value, e = .returned (v0_) ∧ Kd.R Kd.string 9 w' w.heap.size (fun _ => True) v0_ (Lib.splitB sep 0 (Lib.countB s sep) s) ∧ Below w.heap.size w w' := by
  obtain ⟨m, hm⟩ := hg.max
  refine (Tryd.strings_Split s sep m w hs hm h1).mono ?_
  rintro e w' ⟨rfl, rfl⟩
  have hl := Lib.splitB_all sep h1 0 _ s rfl
  have hc := Lib.countB_le sep h1 s.size s (Nat.le_refl _)
  refine ⟨_, rfl, ?_, (Below.refl _ w).alloc (Nat.le_refl _) _⟩
  refine Kd.R_of_own ⟨by simp [encs], .inr ⟨w.heap.size, Lib.countB s sep + 1, _, by rw [hl], Nat.le_refl _, heap_alloc_new w _, by rw [hl]; exact Nat.le_refl _, by unfold maxLen; omega, by simp [hl], by simp only [encs, hl, Nat.mul_one]; exact List.take_of_length_le (by rw [List.length_map, hl]; exact Nat.le_refl _)⟩⟩ (fun _ _ => trivial)
/-- ParseInt(s, 10, 64): a number, or an error that is not nil. -/
theorem parse (s : ByteArray) (w : World) (hg : G0 w) (hs : s.size ≤ 1000000000) :
    Calls Tryd.prog 53 #[.string s, .int .i64 10, .int .i64 64] w fun e w' => ∃ (n : Int) (ev : Value), e = .returned (.tuple #[.int .i64 n, ev]) ∧ ((∃ v, Lib.parseIntB 64 s.data.toList = .ok v ∧ n = v ∧ ev = .nilIface) ∨ ((∀ v, Lib.parseIntB 64 s.data.toList ≠ .ok v) ∧ ∃ N, ev = .iface 107 (.pointer (some ⟨N, 0, none⟩)))) ∧ Below w.heap.size w w' := by
  obtain ⟨t3, p3, h3⟩ := hg.syn
  obtain ⟨t4, p4, h4⟩ := hg.rng
  cases hp : Lib.parseIntB 64 s.data.toList with
  | ok v =>
    refine (Tryd.strconv_ParseInt_10_at64_ok s (by omega) v hp w).mono ?_
    rintro e w' ⟨rfl, h⟩
    refine ⟨v, .nilIface, rfl, .inl ⟨v, rfl, rfl, rfl⟩, ?_⟩
    rcases h with rfl | ⟨t, rfl⟩
    · exact Below.refl _ _
    · exact Lib.bytesWorld_below w 5 t
  | range =>
    refine (Tryd.strconv_ParseInt_10_at64_range_var s (by omega) hp t4 p4 w h4).mono ?_
    rintro e w' ⟨N, rfl, _, _, hb⟩
    exact ⟨_, _, rfl, .inr ⟨fun v h => (by cases h), N, rfl⟩, hb⟩
  | _ =>
    refine (Any.strconv_ParseInt_10_at64_syntax_var Tryd.laysC174 s (by omega) hp t3 p3 w h3).mono ?_
    rintro e w' ⟨N, rfl, _, _, hb⟩
    exact ⟨_, _, rfl, .inr ⟨fun v h => (by cases h), N, rfl⟩, hb⟩
end Go.Proofs.YtchpgjhbmeokaaaDoor.Bld
