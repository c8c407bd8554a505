/- A range over strings.Lines: an iterator that keeps its rest in a captured cell. The caller's invariant is told to stand stores into that cell. -/
import Derived.RangeFuncNested
import Derived.RangeFuncBound
import Derived.RangeFuncCalls
import Derived.RangeFuncLeaves
import Derived.RangeFuncWrites
import Derived.Shelf.Abstract
import Derived.Shelf.RegionOpen
import Derived.OwnWalkIn
import Derived.TacticsInMore
import Derived.LoopNIn
import Derived.LoopIn
import Derived.Test.YtchpgjhbmeokaaaDoorVBld2
set_option linter.unusedVariables false
namespace Go.Proofs.YtchpgjhbmeokaaaDoor.Rng
open Go Go.Proofs Go.RowKit Go.Shelf
attribute [local go_sem] Oper.semAt_some
variable {F : Fence} {n : Nat} {P : Program}
/-- What a round keeps for the iterator: its own cell. -/
def CellKept (b : Nat) (W W' : World) : Prop := W'.heap[b]? = W.heap[b]?
/-- The lines of s, each with its end; what the iterator hands over. -/
def Gives (F : Fence) (P : Program) (n b : Nat) (xs : List ByteArray) (w : World) : Prop :=
  ∀ (l : Nat) (J Jx : List ByteArray → World → Prop) (W : World), Below w.heap.size w W → (∀ p V, J p V → J p V.drew) → (∀ p V v, J p V → J p (V.setCell ⟨b, 0, none⟩ v)) →
    (∀ pre x V, J pre V → (pre ++ [x]) <+: xs → YieldAt F (n - 1) P l #[.string x] V fun e V' => (e = .returned (.bool true) ∧ J (pre ++ [x]) V' ∧ CellKept b V V') ∨ (e = .returned (.bool false) ∧ Jx (pre ++ [x]) V')) →
    J [] W →
    CallsIn F n P 41 (#[.func (.yield l) #[] #[]] ++ #[.pointer (some ⟨b, 0, none⟩)]) W fun e V' => (∃ v, e = .returned v) ∧ (J xs V' ∨ ∃ pre, Jx pre V')
theorem putObj_other {W : World} {l k : Nat} {o : Obj} (h : k ≠ l) : (W.putObj l o).heap[k]? = W.heap[k]? := World.putObj_heap_other h
theorem range_lines {g : Operand} {ps : Array Tmp} {assign body : Code} {Q : Exit → Act → World → Prop} {a : Act} {w : World} {b : Nat} {xs : List ByteArray}
    (hro : F.round = none) (h1 : 1 ≤ n) (hg : a.eval g = .func (.func 41) #[] #[.pointer (some ⟨b, 0, none⟩)]) (hFg : F.fn 41) (eg : ∀ args w, (callFunc 41 args).run P w = .ok (.enter 41 args) w)
    (hit : Gives F P (n - 1) b xs w) (hbl : b < w.heap.size) (hps : ps.size = 1)
    (I : List ByteArray → World → Prop) (Ix : Code → List ByteArray → World → Prop) (hI : OwnFrom w.heap.size I) (hIc : ∀ p V v, I p V → I p (V.setCell ⟨b, 0, none⟩ v)) (hIx : ∀ c, OwnFrom w.heap.size (Ix c)) (h0 : I [] w) (a₁ : ByteArray → Act)
    (hassign : ∀ (l : Nat) (x : ByteArray) (W : World) (K : Act → World → Prop), K (a₁ x) W →
      assign.wpIn (F.inRound l) (n - 1 - 1) P (Exit.then K (fun _ _ _ => False)) { tmps := (ps.zip #[.string x]).foldl (fun t (p, v) => t.setIfInBounds p v) a.tmps, defers := [] } W)
    (hbody : ∀ (l : Nat) (pre : List ByteArray) (x : ByteArray) (W : World), I pre W → (pre ++ [x]) <+: xs → body.wpIn (F.inRound l) (n - 1 - 1) P (ownPostG w.heap.size (CellKept b) I Ix (pre ++ [x]) W) (a₁ x) W)
    (hdone : ∀ (D : Nat) (W : World), w.heap.size ≤ D → I xs W → W.heap[D]? = some (.deferred (some [])) → Q .normal { a with defers := { target := .collected D, args := #[] } :: a.defers } W)
    (hstop : ∀ (D : Nat) (c : Code) (pre : List ByteArray) (W : World), w.heap.size ≤ D → Ix c pre W → W.heap[D]? = some (.deferred (some [])) → c.wpIn F n P Q { a with defers := { target := .collected D, args := #[] } :: a.defers } W) :
    (Code.rangeFunc g ps assign body).wpIn F n P Q a w := by
  refine wpIn_rangeFunc (fun fn hfn => ?_)
  rw [hro]
  let D := w.heap.size
  let L := w.heap.size + 1
  let R : LoopState → Option Code → Loop := fun st pe => { state := st, pending := pe, fn, tmps := a.tmps, params := ps, assign, body, defers := D }
  let W1 := (w.alloc (.deferred (some []))).alloc (.loop (R .ready none))
  have hL : W1.heap[L]? = some (.loop (R .ready none)) := by
    have := World.alloc_heap_new (w.alloc (.deferred (some []))) (.loop (R .ready none))
    rwa [World.size_alloc] at this
  have hK : W1.heap[D]? = some (.deferred (some [])) := (Below.heap_alloc _ _ _ (by simp [D])).trans (World.alloc_heap_new w _)
  have hI1 : I [] W1 := hI.alloc _ (hI.alloc _ h0)
  have hb1 : Below w.heap.size w W1 := ((Below.refl _ w).alloc (Nat.le_refl _) _).alloc (by simp) _
  have hLD : L ≠ D := by simp [L, D]
  have hbD : b ≠ D := by simp only [D]; omega
  have hbL : b ≠ L := by simp only [L]; omega
  refine ⟨L, [{ target := .collected D, args := #[] }], W1, { target := .fn (.func 41) #[.pointer (some ⟨b, 0, none⟩)], args := #[.func (.yield L) #[] #[]] }, W1, 41, #[.func (.yield L) #[] #[]] ++ #[.pointer (some ⟨b, 0, none⟩)], W1, run_enterLoop_outer _ _ _ _ _, ?_, ?_, ?_, fun _ => h1, ?_⟩
  · simp only [resolve, hg]
    simp [go_sem]
  · intro f' hf'
    simp [Target.leads] at hf'
    subst hf'
    exact hFg
  · simp [invoke, go_sem, eg]
  refine (hit L (fun pre W => I pre W ∧ W.heap[L]? = some (.loop (R .ready none)) ∧ W.heap[D]? = some (.deferred (some [])))
    (fun pre W => ∃ c, Ix c pre W ∧ W.heap[L]? = some (.loop (R .done (some c))) ∧ W.heap[D]? = some (.deferred (some []))) W1 hb1
    (fun p V h => ⟨hI p V _ none h.1 (Go.Proofs.YtchpgjhbmeokaaaDoorW.PrintWords.grown_of_below ((Below.refl V.heap.size V).drew) none) (fun r e => by cases e), h.2⟩)
    (fun p V v h => ⟨hIc p V v h.1, (Below.heap_setCell V ⟨b, 0, none⟩ v L (fun e => hbL e.symm)).trans h.2.1, (Below.heap_setCell V ⟨b, 0, none⟩ v D (fun e => hbD e.symm)).trans h.2.2⟩)
    ?round ⟨hI1, hL, hK⟩).mono ?behind
  case round =>
    rintro pre x W ⟨hi, hl, hk⟩ hpx
    have hlt := (Array.getElem?_eq_some_iff.1 hl).1
    have hy := run_yield (P := P) (args := #[.string x]) hl (by simp [R, hps])
    refine ⟨fn, _, assign, body, hy, roundIn_of_wpIn hfn (hassign _ x W _ ⟨_, run_beginRound hl rfl, ?_⟩)⟩
    generalize hB : ({ R .ready none with state := .busy } : Loop) = busy
    have hl2 : (W.putObj L (.loop busy)).heap[L]? = some (.loop busy) := World.putObj_heap_same hlt
    have hk2 : (W.putObj L (.loop busy)).heap[D]? = some (.deferred (some [])) := (World.putObj_heap_other (fun e => hLD e.symm)).trans hk
    refine wpIn_mono (hbody _ pre x _ (hI.putObj _ hi (by simp [L]) hl rfl) hpx) ?_
    have fin : ∀ (jump : Option Code) (W3 : World), KeepsFrom w.heap.size (W.putObj L (.loop busy)) W3 →
        (Instr.endRound L jump).run P W3 = .ok (.bool jump.isNone) (W3.putObj L (.loop (R (if jump.isNone then .ready else .done) jump))) ∧ W3.heap[L]? = some (.loop busy) ∧
        (W3.putObj L (.loop (R (if jump.isNone then .ready else .done) jump))).heap[L]? = some (.loop (R (if jump.isNone then .ready else .done) jump)) ∧ (W3.putObj L (.loop (R (if jump.isNone then .ready else .done) jump))).heap[D]? = some (.deferred (some [])) := fun jump W3 hk3 => by
      have hl3 := hk3.same L _ (by simp [L]) hl2 rfl
      have hr := run_endRound (P := P) jump hl3
      rw [← hB] at hr
      exact ⟨hr, hl3, World.putObj_heap_same (Array.getElem?_eq_some_iff.1 hl3).1, (World.putObj_heap_other (fun e => hLD e.symm)).trans (hk3.same D _ (Nat.le_refl _) hk2 rfl)⟩
    have leaves : ∀ (c : Code) (W3 : World), KeepsFrom w.heap.size (W.putObj L (.loop busy)) W3 → Ix c (pre ++ [x]) W3 → _ := fun c W3 hk3 hi3 => (fin (some c) W3 hk3)
    rintro e a3 W3 hp
    cases e with
    | normal =>
      obtain ⟨hk3, hc3, hi3⟩ := hp
      obtain ⟨hr, hl3, hl4, hk4⟩ := fin none W3 hk3
      refine ⟨_, _, hr, .inl ⟨rfl, ⟨hI.putObj _ hi3 (by simp [L]) hl3 rfl, hl4, hk4⟩, ?_⟩⟩
      show (W3.putObj L _).heap[b]? = W.heap[b]?
      rw [World.putObj_heap_other hbL, hc3, World.putObj_heap_other hbL]
    | ret =>
      obtain ⟨hr, hl3, hl4, hk4⟩ := fin (some .ret) W3 hp.1
      exact ⟨_, _, hr, .inr ⟨rfl, .ret, (hIx _).putObj _ hp.2 (by simp [L]) hl3 rfl, hl4, hk4⟩⟩
    | exit id =>
      obtain ⟨hr, hl3, hl4, hk4⟩ := fin (some (.exit id)) W3 hp.1
      exact ⟨_, _, hr, .inr ⟨rfl, .exit id, (hIx _).putObj _ hp.2 (by simp [L]) hl3 rfl, hl4, hk4⟩⟩
    | goto t =>
      obtain ⟨hr, hl3, hl4, hk4⟩ := fin (some (.goto t)) W3 hp.1
      exact ⟨_, _, hr, .inr ⟨rfl, .goto t, (hIx _).putObj _ hp.2 (by simp [L]) hl3 rfl, hl4, hk4⟩⟩
    | panic ch => exact hp.elim
    | outgrown => exact hp.elim
  case behind =>
    rintro e W2 ⟨⟨v, rfl⟩, (⟨hi, hl, hk⟩ | ⟨pre, c, hi, hl, hk⟩)⟩
    · exact ⟨none, _, run_endLoop (P := P) hl (by simp [R]), hdone D _ (Nat.le_refl _) (hI.putObj _ hi (by simp [L]) hl rfl) ((World.putObj_heap_other (fun e => hLD e.symm)).trans hk)⟩
    · exact ⟨some c, _, run_endLoop (P := P) hl (by simp [R]), hstop D c pre _ (Nat.le_refl _) ((hIx c).putObj _ hi (by simp [L]) hl rfl) ((World.putObj_heap_other (fun e => hLD e.symm)).trans hk)⟩
def nl : UInt8 := (Int.toNat 10).toUInt8
def linesF : Nat → ByteArray → List ByteArray
  | 0, _ => []
  | k + 1, s => if s.size = 0 then [] else if Lib.indexByte s.data.toList nl = -1 then [s] else s.extract 0 ((Lib.indexByte s.data.toList nl).toNat + 1) :: linesF k (s.extract ((Lib.indexByte s.data.toList nl).toNat + 1) s.size)
def linesOf (s : ByteArray) : List ByteArray := linesF s.size s
def rest (w : World) (b : Nat) : Nat := match w.cell? ⟨b, 0, none⟩ with
  | some (.string t) => t.size
  | _ => 0
theorem rest_eq {w : World} {b : Nat} {t : ByteArray} (h : w.heap[b]? = some (.cells #[.string t] 9 (0, 0))) : rest w b = t.size := by
  have hc : w.cell? ⟨b, 0, none⟩ = some (.string t) := (YtchpgjhbmeokaaaDoorW.PrintWords.blk_cell h 0).trans rfl
  unfold rest
  rw [hc]
set_option maxRecDepth 100000 in
set_option maxHeartbeats 2000000 in
theorem lines_gives (n b : Nat) (s : ByteArray) (w : World) (hn : 1 ≤ n) (hs : s.size ≤ 1000000000000) (hb : w.heap[b]? = some (.cells #[.string s] 9 (0, 0))) : Gives Fence.wide Tryd.prog n b (linesOf s) w := fun l J Jx W hW hJd hJc hY h0 => by
  have hbW : W.heap[b]? = some (.cells #[.string s] 9 (0, 0)) := (hW.block b (Array.getElem?_eq_some_iff.1 hb).1).trans hb
  refine callsIn_of_wp Tryd.func41 rfl trivial ?_ rfl
  simp only [Tryd.ntmps41, List.size_toArray, List.length_cons, List.length_nil, Nat.reduceAdd, Nat.reduceSub, Array.replicate_succ, Array.replicate_zero, List.push_toArray, List.append_toArray, List.nil_append, List.cons_append]
  gi_wp2
  gi_loopw [3, 4] (fun _ _ wr => ∃ (pre : List ByteArray) (t : ByteArray) (k : Nat), linesOf s = pre ++ linesF k t ∧ t.size ≤ k ∧ t.size ≤ s.size ∧ wr.heap[b]? = some (.cells #[.string t] 9 (0, 0)) ∧ J pre wr)
    (fun _ _ wr => rest wr b)
  case atStart => exact ⟨[], s, s.size, rfl, Nat.le_refl _, Nat.le_refl _, hbW, h0⟩
  case round =>
    obtain ⟨pre, t, k, hx, hk, hts, hbr, hJr⟩ := hrel
    have hc0 : wr.cell? ⟨b, 0, none⟩ = some (.string t) := (YtchpgjhbmeokaaaDoorW.PrintWords.blk_cell hbr 0).trans rfl
    have hf0 := YtchpgjhbmeokaaaDoorW.PrintWords.blk_frozen hbr 0
    by_cases hz : t.size = 0
    · have z1 : decide (0 < t.size) = false := decide_eq_false (by omega)
      have z2 : (0 < t.size) = False := eq_false (by omega)
      gi_wp2
      go_end0
      refine ⟨⟨_, rfl⟩, .inl ?_⟩
      have e : linesF k t = [] := by cases k with
        | zero => rfl
        | succ k => rw [linesF, if_pos hz]
      rw [hx, e, List.append_nil]
      exact hJr
    · have z1 : decide (0 < t.size) = true := decide_eq_true (by omega)
      have z2 : (0 < t.size) = True := eq_true (by omega)
      obtain ⟨k, rfl⟩ : ∃ q, k = q + 1 := ⟨k - 1, by omega⟩
      have hge := Lib.indexByte_ge t.data.toList nl
      by_cases hm : Lib.indexByte t.data.toList nl = -1
      · have hm' : Lib.indexByte t.data.toList ((10 : Int).toNat.toUInt8) = -1 := hm
        have hl : linesF (k + 1) t = [t] := by rw [linesF, if_neg hz, if_pos hm]
        obtain ⟨fn, tmps, assign, body, hy, hR⟩ := hY pre t (wr.setCell ⟨b, 0, none⟩ (.string ⟨#[]⟩)) (hJc _ _ _ hJr) ⟨[], by rw [hx, hl]; simp⟩
        gi_wp2_with (refine ⟨trivial, ?_⟩; gi_at_call 42; refine (callsIn_wide.2 (Tryd.strings_IndexByte t 10 _)).mono ?_; rintro e w' ⟨rfl, rfl⟩; rw [hm'])
        have hb2 : (w'.setCell ⟨b, 0, none⟩ (.string ⟨#[]⟩)).heap[b]? = some (.cells #[.string ⟨#[]⟩] 9 (0, 0)) := heap_setCell_same _ b 0 _ 9 _ hbr
        refine hR.mono ?_
        rintro e W3 (⟨rfl, hJ3, hk3⟩ | ⟨rfl, hJx3⟩)
        · have hb3 : W3.heap[b]? = some (.cells #[.string ⟨#[]⟩] 9 (0, 0)) := hk3.trans hb2
          gi_wp2
          go_roundw
          case rel => exact ⟨pre ++ [t], ⟨#[]⟩, 0, by rw [hx, hl]; simp [linesF], Nat.le_refl _, Nat.zero_le _, hb3, hJ3⟩
          case measure => rw [rest_eq hb3, rest_eq hbr]; show 0 < t.size; omega
        · gi_wp2
          refine bodyPost_ret (results_none rfl _ _ _) rfl ?_
          exact ⟨⟨_, rfl⟩, .inr ⟨_, hJx3⟩⟩
      · obtain ⟨i, hi⟩ : ∃ i : Nat, Lib.indexByte t.data.toList nl = i := ⟨(Lib.indexByte t.data.toList nl).toNat, by omega⟩
        have hi' : Lib.indexByte t.data.toList ((10 : Int).toNat.toUInt8) = i := hi
        have hlt : i < t.size := by
          have h := (Lib.indexByte_some hi).1
          have h2 := (List.getElem?_eq_some_iff.1 h).1
          simpa using h2
        have hl : linesF (k + 1) t = t.extract 0 (i + 1) :: linesF k (t.extract (i + 1) t.size) := by rw [linesF, if_neg hz, if_neg hm, hi]; rfl
        gi_wp2_with (refine ⟨trivial, ?_⟩; gi_at_call 42; refine (callsIn_wide.2 (Tryd.strings_IndexByte t 10 _)).mono ?_; rintro e w' ⟨rfl, rfl⟩; rw [hi'])
        have hwi : IntKind.i64.wrap ((i : Int) + 1) = (i : Int) + 1 := by rw [IntKind.wrap_i64]; omega
        have hwi2 : wrap64 ((i : Int) + 1) = (i : Int) + 1 := by unfold wrap64; omega
        have hn1 : ((i : Int) + 1).toNat = i + 1 := by omega
        have hb1 : ((i : Int) + 1 ≤ (t.size : Int)) = True := eq_true (by omega)
        have hb0 : (0 ≤ (i : Int) + 1) = True := eq_true (by omega)
        have hmx : Tryd.prog.follows .mixedOrders = true := by kernel_rfl
        have hsz : (t.extract (i + 1) t.size).size = t.size - (i + 1) := by rw [ByteArray.size_extract]; omega
        have hb2 : ((w'.setCell ⟨b, 0, none⟩ (.string (t.extract (i + 1) t.size))).drew).heap[b]? = some (.cells #[.string (t.extract (i + 1) t.size)] 9 (0, 0)) := heap_setCell_same _ b 0 _ 9 _ hbr
        have hlen : (pre ++ [t.extract 0 (i + 1)]) <+: linesOf s := ⟨linesF k (t.extract (i + 1) t.size), by rw [hx, hl]; simp⟩
        gi_region_with_o (skip)
        all_goals
          obtain ⟨fn, tmps, assign, body, hy, hR⟩ := hY pre (t.extract 0 (i + 1)) ((w'.setCell ⟨b, 0, none⟩ (.string (t.extract (i + 1) t.size))).drew) (hJd _ _ (hJc _ _ _ hJr)) hlen
          gi_wp2
          refine hR.mono ?_
          rintro e W3 (⟨rfl, hJ3, hk3⟩ | ⟨rfl, hJx3⟩)
          · have hb3 : W3.heap[b]? = some (.cells #[.string (t.extract (i + 1) t.size)] 9 (0, 0)) := hk3.trans hb2
            gi_wp2
            go_roundw
            case rel => exact ⟨pre ++ [t.extract 0 (i + 1)], t.extract (i + 1) t.size, k, by rw [hx, hl]; simp, by rw [hsz]; omega, by rw [hsz]; omega, hb3, hJ3⟩
            case measure => rw [rest_eq hb3, rest_eq hbr, hsz]; omega
          · gi_wp2
            refine bodyPost_ret (results_none rfl _ _ _) rfl ?_
            exact ⟨⟨_, rfl⟩, .inr ⟨_, hJx3⟩⟩
set_option maxRecDepth 100000 in
/-- strings.Lines: the iterator, with its string in a cell of its own. -/
theorem lines (s : ByteArray) (w : World) : Calls Tryd.prog 25 #[.string s] w fun e w' => e = .returned (.func (.func 41) #[] #[.pointer (some ⟨w.heap.size, 0, none⟩)]) ∧ w' = w.alloc (.cells #[.string s] 9) := by
  go_enter Tryd.func25, Tryd.ntmps25
  go_wp2
  go_ret
  exact ⟨rfl, rfl⟩
end Go.Proofs.YtchpgjhbmeokaaaDoor.Rng
