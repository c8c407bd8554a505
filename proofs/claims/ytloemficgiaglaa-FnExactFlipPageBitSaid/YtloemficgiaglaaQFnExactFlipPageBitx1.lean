-- Written by mp.py, a program of this session over the kit's print; the session answers for it, Lean checks it.
import Derived.Test.YtloemficgiaglaaQFnExactFlipPageBitx0
namespace Go.Proofs.Ytloemficgiaglaa.QFnExactFlipPageBit
open Go.RowKit Go.Proofs.Ytloemficgiaglaa.Hand Go.Proofs.YtloemficgiaglaaW.PrintWords Go.Proofs.YtloemficgiaglaaW.PrintLast Go.Proofs.YtloemficgiaglaaW.PrintMore
attribute [local go_sem] max2_int min2_int max_two min_two max_three min_three max_four min_four   -- for this text's walks alone
set_option linter.unusedVariables false
set_option linter.unusedSimpArgs false

/-! ### spec_l00In: function 44 -/
def spec_l00In.f (a0 : Int) (a1 : Int) (a2 : Int) : Option (Bool) := if a0 ≥ a1 then (some (decide (a0 ≤ a2))) else (some false)
set_option maxHeartbeats 8000000 in
set_option maxRecDepth 100000 in
theorem spec_l00In.calls (a0 : Int) (a1 : Int) (a2 : Int) (r : Bool) (w : World) (h : spec_l00In.f a0 a1 a2 = some r) :
    Calls Try.prog 44 #[.int .i64 a0, .int .i64 a1, .int .i64 a2] w fun e w' => e = .returned (.bool r) ∧ Drawn0 w w' := by
  have H : (if a0 ≥ a1 then (some (decide (a0 ≤ a2))) else (some false)) = some r := h
  clear h
  by_cases c4 : a0 ≥ a1
  · rw [if_pos c4] at H
    have c4b0 : decide (a1 ≤ a0) = true := decide_eq_true c4
    clear c4
    obtain rfl := Option.some.inj H
    go_enter Try.func44, Try.ntmps44
    go_wp2
    go_ret
    exact ⟨by first | rfl | (simp; done) | (simp [*]; done), by repeat (first | exact Drawn0.refl _ | apply Drawn0.step)⟩
  · rw [if_neg c4] at H
    have c4b0 : decide (a1 ≤ a0) = false := decide_eq_false c4
    clear c4
    obtain rfl := Option.some.inj H
    go_enter Try.func44, Try.ntmps44
    go_wp2
    go_ret
    exact ⟨by first | rfl | (simp; done) | (simp [*]; done), by repeat (first | exact Drawn0.refl _ | apply Drawn0.step)⟩

/-! ### spec_FlipPageBit: function 23 (a text of the session's own) -/
/-- A string with one bit inverted: the byte at i, its bit j. -/
def flipAt (s : ByteArray) (i j : Nat) : ByteArray := ⟨(s.data.toList.set i (UInt8.ofNat (Go.bits .xor .u8 (bt s (i : Int)) ((2 ^ j : Nat) : Int)).toNat)).toArray⟩
def flipS (s : ByteArray) (bit : Int) : ByteArray := flipAt s (bit.toNat / 8) (bit.toNat % 8)
theorem flip_num {bit : Int} (h0 : 0 ≤ bit) (h1 : bit ≤ 727) : IntKind.i64.wrap (Int.tdiv bit 8) = ((bit.toNat / 8 : Nat) : Int) ∧ Int.tmod bit 8 = ((bit.toNat % 8 : Nat) : Int) ∧ bit.toNat / 8 < 91 ∧ bit.toNat % 8 < 8 := by
  have e1 : Int.tdiv bit 8 = bit / 8 := Int.tdiv_eq_ediv_of_nonneg h0
  have e2 : Int.tmod bit 8 = bit % 8 := Int.tmod_eq_emod_of_nonneg h0
  rw [e1, e2, IntKind.wrap_i64]
  omega
theorem flip_byte (s : ByteArray) (i : Nat) (hi : i < s.size) : bt s (i : Int) = ((s.data[i]'hi).toNat : Int) := by
  unfold bt
  have t : ((i : Int)).toNat = i := by omega
  rw [dif_pos (by rw [t]; exact hi)]
  have e : s[((i : Int)).toNat]'(by rw [t]; exact hi) = s.data[i]'hi := by simp only [t]; rfl
  rw [e]
/-- The bytes in the call's own block behind the store, read as a string again. -/
theorem flip_back (s : ByteArray) (i j : Nat) (hi : i < s.size) (hj : j < 8) (cap : Nat) (w : World) (W : World)
    (hW : ∀ a : Addr, W.cell? a = ((w.alloc (.cells (bytesRow s cap) 5 ((bytesRow s cap).size, (bytesRow s cap).size + 1))).setCell ⟨w.heap.size, i, none⟩ (.int .u8 (Go.bits .xor .u8 (bt s (i : Int)) ((2 ^ j : Nat) : Int)))).cell? a) :
    (convert 33 9 (.slice (some ⟨w.heap.size, 0, none⟩) s.size cap)).run Try.prog W = .ok (.string (flipAt s i j)) W := by
  have hr : 0 ≤ Go.bits .xor .u8 (bt s (i : Int)) ((2 ^ j : Nat) : Int) ∧ Go.bits .xor .u8 (bt s (i : Int)) ((2 ^ j : Nat) : Int) ≤ 255 := by
    refine Lem.xor_range _ _ (bt_range _ _) ⟨Int.natCast_nonneg _, ?_⟩
    have : j = 0 ∨ j = 1 ∨ j = 2 ∨ j = 3 ∨ j = 4 ∨ j = 5 ∨ j = 6 ∨ j = 7 := by omega
    rcases this with rfl | rfl | rfl | rfl | rfl | rfl | rfl | rfl <;> decide
  have h := run_convert_bytes_back (P := Try.prog) W 33 9 5 ⟨w.heap.size, 0, none⟩ cap (s.data.toList.set i (UInt8.ofNat (Go.bits .xor .u8 (bt s (i : Int)) ((2 ^ j : Nat) : Int)).toNat)) Try.underlying33 Try.underlying5 Try.underlying9 (fun q hq => by
    have hq1 : q < s.data.size := by simpa using hq
    have hq2 : q < s.data.toList.length := by simpa using hq1
    have ea : (⟨w.heap.size, 0, none⟩ : Addr).add q = ⟨w.heap.size, q, none⟩ := by
      unfold Go.Addr.add
      split
      · rename_i hz
        rw [hz]
      · simp
    have hrow : (w.alloc (.cells (bytesRow s cap) 5 ((bytesRow s cap).size, (bytesRow s cap).size + 1))).heap[w.heap.size]? = some (.cells (bytesRow s cap) 5 ((bytesRow s cap).size, (bytesRow s cap).size + 1)) := heap_alloc_new w _
    rw [ea, hW]
    by_cases c : q = i
    · subst c
      rw [List.getElem_set_self]
      have hc : ((w.alloc (.cells (bytesRow s cap) 5 ((bytesRow s cap).size, (bytesRow s cap).size + 1))).cell? ⟨w.heap.size, q, none⟩).isSome = true := by
        rw [World.cell?_alloc_mark, bytesRow_at s cap q hq1]
        rfl
      obtain ⟨u, hu⟩ := Option.isSome_iff_exists.1 hc
      rw [World.cell?_setCell_same _ _ _ hu]
      have e8 : (UInt8.ofNat (Go.bits .xor .u8 (bt s (q : Int)) ((2 ^ j : Nat) : Int)).toNat).toNat = (Go.bits .xor .u8 (bt s (q : Int)) ((2 ^ j : Nat) : Int)).toNat % 256 := by simp
      rw [e8]
      congr 2
      omega
    · rw [World.cell?_setCell_other _ _ _ _ (fun e => c (Addr.mk.inj e).2.1.symm)]
      rw [World.cell?_alloc_mark, bytesRow_at s cap q hq1, List.getElem_set_ne (fun e => c e.symm)]
      simp)
  have hl : (s.data.toList.set i (UInt8.ofNat (Go.bits .xor .u8 (bt s (i : Int)) ((2 ^ j : Nat) : Int)).toNat)).length = s.size := by
    rw [List.length_set, Array.length_toList]
    rfl
  rw [hl] at h
  exact h
set_option maxHeartbeats 8000000 in
set_option maxRecDepth 100000 in
theorem flip_spec_0 (s : ByteArray) (bit : Int) (i : Nat) (w : World) (hs : s.size = 91) (hi : i < 91) (e1 : IntKind.i64.wrap (Int.tdiv bit 8) = (i : Int)) (e2 : Int.tmod bit 8 = 0) (hin : spec_l00In.f bit 0 727 = some true) :
    Calls Try.prog 23 #[.string s, .int .i64 bit] w fun e w' => e = .returned (.tuple #[.string (flipAt s i 0), .int .i64 0]) ∧ Below w.heap.size w w' := by
  have hi2 : i < s.size := by omega
  have p1 : (0 : Int) ≤ (i : Int) := by omega
  have q1 : (i : Int) < (s.size : Int) := by omega
  have q2 : i < s.size := hi2
  have HI := Aside0.mk hi2
  have hz1 : ((s.size : Int) != 91) = false := by simp [hs]
  have HIN := Aside0.mk hin
  clear hin
  clear hs hi hi2
  go_enter Try.func23, Try.ntmps23
  go_upto_region 5 with (go_at_call 44; refine (spec_l00In.calls bit 0 727 true _ HIN.out).mono ?_; rintro e w' ⟨rfl, ⟨nd, rfl⟩⟩)
  have HB1 := Aside0.mk (pw_below_drewN (Below.refl w.heap.size w) nd)
  have HZ := Aside0.mk (show w.heap.size ≤ (w.drewN nd).heap.size from Nat.le_refl _)
  generalize w.drewN nd = w1 at HB1 HZ ⊢
  have hb0 := flip_back s i 0 HI.out (by omega) (grownCap w1 s.size 0 5) w1
  have hconv := run_bytes_of_string (P := Try.prog) w1 9 33 5 s Try.underlying9 Try.underlying33 Try.underlying5
  have c0 : (w1.alloc (.cells (bytesRow s (grownCap w1 s.size 0 5)) 5 ((bytesRow s (grownCap w1 s.size 0 5)).size, (bytesRow s (grownCap w1 s.size 0 5)).size + 1))).cell? ⟨w1.heap.size, i, none⟩ = some (.int .u8 (bt s (i : Int))) := by
    rw [World.cell?_alloc_mark, bytesRow_at s _ i HI.out, flip_byte s i HI.out]
  have hsz : i < (bytesRow s (grownCap w1 s.size 0 5)).size := by
    have h2 := HI.out
    have h3 : (bytesRow s (grownCap w1 s.size 0 5)).size = s.size + (grownCap w1 s.size 0 5 - s.size) := by
      unfold bytesRow
      simp
    omega
  have z0 : (w1.alloc (.cells (bytesRow s (grownCap w1 s.size 0 5)) 5 ((bytesRow s (grownCap w1 s.size 0 5)).size, (bytesRow s (grownCap w1 s.size 0 5)).size + 1))).frozen? ⟨w1.heap.size, i, none⟩ = false := by
    rw [World.frozen?_alloc_mark]
    simp <;> omega
  generalize grownCap w1 s.size 0 5 = cap at hb0 hconv c0 z0 hsz
  generalize hC : bytesRow s cap = C at hb0 hconv c0 z0 hsz
  have hpow : ((2 ^ 0 : Nat) : Int) = 1 := rfl
  rw [hpow] at hb0
  clear hC hpow hsz
  go_upto_region 6 with (fail)
  have c1 : ((w1.alloc (.cells C 5 (C.size, C.size + 1))).drew).cell? ⟨w1.heap.size, i, none⟩ = some (.int .u8 (bt s (i : Int))) := c0
  have z1 : ((w1.alloc (.cells C 5 (C.size, C.size + 1))).drew).frozen? ⟨w1.heap.size, i, none⟩ = false := z0
  have HBe := Aside0.mk (show Below w.heap.size w ((w1.alloc (.cells C 5 (C.size, C.size + 1))).drew) from below_drew (below_alloc HB1.out _))
  have hback : (convert 33 9 (.slice (some ⟨w1.heap.size, 0, none⟩) s.size cap)).run Try.prog (((w1.alloc (.cells C 5 (C.size, C.size + 1))).drew.setCell ⟨w1.heap.size, i, none⟩ (.int .u8 (Go.bits .xor .u8 (bt s (i : Int)) 1)))) = .ok (.string (flipAt s i 0)) (((w1.alloc (.cells C 5 (C.size, C.size + 1))).drew.setCell ⟨w1.heap.size, i, none⟩ (.int .u8 (Go.bits .xor .u8 (bt s (i : Int)) 1)))) := hb0 _ (fun _ => rfl)
  generalize (w1.alloc (.cells C 5 (C.size, C.size + 1))).drew = wq at c1 z1 hback HBe ⊢
  clear c0 z0 hconv hb0
  go_wp2
  go_ret2
  exact ⟨rfl, below_set HBe.out HZ.out⟩
set_option maxHeartbeats 8000000 in
set_option maxRecDepth 100000 in
theorem flip_spec_1 (s : ByteArray) (bit : Int) (i : Nat) (w : World) (hs : s.size = 91) (hi : i < 91) (e1 : IntKind.i64.wrap (Int.tdiv bit 8) = (i : Int)) (e2 : Int.tmod bit 8 = 1) (hin : spec_l00In.f bit 0 727 = some true) :
    Calls Try.prog 23 #[.string s, .int .i64 bit] w fun e w' => e = .returned (.tuple #[.string (flipAt s i 1), .int .i64 0]) ∧ Below w.heap.size w w' := by
  have hi2 : i < s.size := by omega
  have p1 : (0 : Int) ≤ (i : Int) := by omega
  have q1 : (i : Int) < (s.size : Int) := by omega
  have q2 : i < s.size := hi2
  have HI := Aside0.mk hi2
  have hz1 : ((s.size : Int) != 91) = false := by simp [hs]
  have HIN := Aside0.mk hin
  clear hin
  clear hs hi hi2
  go_enter Try.func23, Try.ntmps23
  go_upto_region 5 with (go_at_call 44; refine (spec_l00In.calls bit 0 727 true _ HIN.out).mono ?_; rintro e w' ⟨rfl, ⟨nd, rfl⟩⟩)
  have HB1 := Aside0.mk (pw_below_drewN (Below.refl w.heap.size w) nd)
  have HZ := Aside0.mk (show w.heap.size ≤ (w.drewN nd).heap.size from Nat.le_refl _)
  generalize w.drewN nd = w1 at HB1 HZ ⊢
  have hb0 := flip_back s i 1 HI.out (by omega) (grownCap w1 s.size 0 5) w1
  have hconv := run_bytes_of_string (P := Try.prog) w1 9 33 5 s Try.underlying9 Try.underlying33 Try.underlying5
  have c0 : (w1.alloc (.cells (bytesRow s (grownCap w1 s.size 0 5)) 5 ((bytesRow s (grownCap w1 s.size 0 5)).size, (bytesRow s (grownCap w1 s.size 0 5)).size + 1))).cell? ⟨w1.heap.size, i, none⟩ = some (.int .u8 (bt s (i : Int))) := by
    rw [World.cell?_alloc_mark, bytesRow_at s _ i HI.out, flip_byte s i HI.out]
  have hsz : i < (bytesRow s (grownCap w1 s.size 0 5)).size := by
    have h2 := HI.out
    have h3 : (bytesRow s (grownCap w1 s.size 0 5)).size = s.size + (grownCap w1 s.size 0 5 - s.size) := by
      unfold bytesRow
      simp
    omega
  have z0 : (w1.alloc (.cells (bytesRow s (grownCap w1 s.size 0 5)) 5 ((bytesRow s (grownCap w1 s.size 0 5)).size, (bytesRow s (grownCap w1 s.size 0 5)).size + 1))).frozen? ⟨w1.heap.size, i, none⟩ = false := by
    rw [World.frozen?_alloc_mark]
    simp <;> omega
  generalize grownCap w1 s.size 0 5 = cap at hb0 hconv c0 z0 hsz
  generalize hC : bytesRow s cap = C at hb0 hconv c0 z0 hsz
  have hpow : ((2 ^ 1 : Nat) : Int) = 2 := rfl
  rw [hpow] at hb0
  clear hC hpow hsz
  go_upto_region 6 with (fail)
  have c1 : ((w1.alloc (.cells C 5 (C.size, C.size + 1))).drew).cell? ⟨w1.heap.size, i, none⟩ = some (.int .u8 (bt s (i : Int))) := c0
  have z1 : ((w1.alloc (.cells C 5 (C.size, C.size + 1))).drew).frozen? ⟨w1.heap.size, i, none⟩ = false := z0
  have HBe := Aside0.mk (show Below w.heap.size w ((w1.alloc (.cells C 5 (C.size, C.size + 1))).drew) from below_drew (below_alloc HB1.out _))
  have hback : (convert 33 9 (.slice (some ⟨w1.heap.size, 0, none⟩) s.size cap)).run Try.prog (((w1.alloc (.cells C 5 (C.size, C.size + 1))).drew.setCell ⟨w1.heap.size, i, none⟩ (.int .u8 (Go.bits .xor .u8 (bt s (i : Int)) 2)))) = .ok (.string (flipAt s i 1)) (((w1.alloc (.cells C 5 (C.size, C.size + 1))).drew.setCell ⟨w1.heap.size, i, none⟩ (.int .u8 (Go.bits .xor .u8 (bt s (i : Int)) 2)))) := hb0 _ (fun _ => rfl)
  generalize (w1.alloc (.cells C 5 (C.size, C.size + 1))).drew = wq at c1 z1 hback HBe ⊢
  clear c0 z0 hconv hb0
  go_wp2
  go_ret2
  exact ⟨rfl, below_set HBe.out HZ.out⟩
set_option maxHeartbeats 8000000 in
set_option maxRecDepth 100000 in
theorem flip_spec_2 (s : ByteArray) (bit : Int) (i : Nat) (w : World) (hs : s.size = 91) (hi : i < 91) (e1 : IntKind.i64.wrap (Int.tdiv bit 8) = (i : Int)) (e2 : Int.tmod bit 8 = 2) (hin : spec_l00In.f bit 0 727 = some true) :
    Calls Try.prog 23 #[.string s, .int .i64 bit] w fun e w' => e = .returned (.tuple #[.string (flipAt s i 2), .int .i64 0]) ∧ Below w.heap.size w w' := by
  have hi2 : i < s.size := by omega
  have p1 : (0 : Int) ≤ (i : Int) := by omega
  have q1 : (i : Int) < (s.size : Int) := by omega
  have q2 : i < s.size := hi2
  have HI := Aside0.mk hi2
  have hz1 : ((s.size : Int) != 91) = false := by simp [hs]
  have HIN := Aside0.mk hin
  clear hin
  clear hs hi hi2
  go_enter Try.func23, Try.ntmps23
  go_upto_region 5 with (go_at_call 44; refine (spec_l00In.calls bit 0 727 true _ HIN.out).mono ?_; rintro e w' ⟨rfl, ⟨nd, rfl⟩⟩)
  have HB1 := Aside0.mk (pw_below_drewN (Below.refl w.heap.size w) nd)
  have HZ := Aside0.mk (show w.heap.size ≤ (w.drewN nd).heap.size from Nat.le_refl _)
  generalize w.drewN nd = w1 at HB1 HZ ⊢
  have hb0 := flip_back s i 2 HI.out (by omega) (grownCap w1 s.size 0 5) w1
  have hconv := run_bytes_of_string (P := Try.prog) w1 9 33 5 s Try.underlying9 Try.underlying33 Try.underlying5
  have c0 : (w1.alloc (.cells (bytesRow s (grownCap w1 s.size 0 5)) 5 ((bytesRow s (grownCap w1 s.size 0 5)).size, (bytesRow s (grownCap w1 s.size 0 5)).size + 1))).cell? ⟨w1.heap.size, i, none⟩ = some (.int .u8 (bt s (i : Int))) := by
    rw [World.cell?_alloc_mark, bytesRow_at s _ i HI.out, flip_byte s i HI.out]
  have hsz : i < (bytesRow s (grownCap w1 s.size 0 5)).size := by
    have h2 := HI.out
    have h3 : (bytesRow s (grownCap w1 s.size 0 5)).size = s.size + (grownCap w1 s.size 0 5 - s.size) := by
      unfold bytesRow
      simp
    omega
  have z0 : (w1.alloc (.cells (bytesRow s (grownCap w1 s.size 0 5)) 5 ((bytesRow s (grownCap w1 s.size 0 5)).size, (bytesRow s (grownCap w1 s.size 0 5)).size + 1))).frozen? ⟨w1.heap.size, i, none⟩ = false := by
    rw [World.frozen?_alloc_mark]
    simp <;> omega
  generalize grownCap w1 s.size 0 5 = cap at hb0 hconv c0 z0 hsz
  generalize hC : bytesRow s cap = C at hb0 hconv c0 z0 hsz
  have hpow : ((2 ^ 2 : Nat) : Int) = 4 := rfl
  rw [hpow] at hb0
  clear hC hpow hsz
  go_upto_region 6 with (fail)
  have c1 : ((w1.alloc (.cells C 5 (C.size, C.size + 1))).drew).cell? ⟨w1.heap.size, i, none⟩ = some (.int .u8 (bt s (i : Int))) := c0
  have z1 : ((w1.alloc (.cells C 5 (C.size, C.size + 1))).drew).frozen? ⟨w1.heap.size, i, none⟩ = false := z0
  have HBe := Aside0.mk (show Below w.heap.size w ((w1.alloc (.cells C 5 (C.size, C.size + 1))).drew) from below_drew (below_alloc HB1.out _))
  have hback : (convert 33 9 (.slice (some ⟨w1.heap.size, 0, none⟩) s.size cap)).run Try.prog (((w1.alloc (.cells C 5 (C.size, C.size + 1))).drew.setCell ⟨w1.heap.size, i, none⟩ (.int .u8 (Go.bits .xor .u8 (bt s (i : Int)) 4)))) = .ok (.string (flipAt s i 2)) (((w1.alloc (.cells C 5 (C.size, C.size + 1))).drew.setCell ⟨w1.heap.size, i, none⟩ (.int .u8 (Go.bits .xor .u8 (bt s (i : Int)) 4)))) := hb0 _ (fun _ => rfl)
  generalize (w1.alloc (.cells C 5 (C.size, C.size + 1))).drew = wq at c1 z1 hback HBe ⊢
  clear c0 z0 hconv hb0
  go_wp2
  go_ret2
  exact ⟨rfl, below_set HBe.out HZ.out⟩
set_option maxHeartbeats 8000000 in
set_option maxRecDepth 100000 in
theorem flip_spec_3 (s : ByteArray) (bit : Int) (i : Nat) (w : World) (hs : s.size = 91) (hi : i < 91) (e1 : IntKind.i64.wrap (Int.tdiv bit 8) = (i : Int)) (e2 : Int.tmod bit 8 = 3) (hin : spec_l00In.f bit 0 727 = some true) :
    Calls Try.prog 23 #[.string s, .int .i64 bit] w fun e w' => e = .returned (.tuple #[.string (flipAt s i 3), .int .i64 0]) ∧ Below w.heap.size w w' := by
  have hi2 : i < s.size := by omega
  have p1 : (0 : Int) ≤ (i : Int) := by omega
  have q1 : (i : Int) < (s.size : Int) := by omega
  have q2 : i < s.size := hi2
  have HI := Aside0.mk hi2
  have hz1 : ((s.size : Int) != 91) = false := by simp [hs]
  have HIN := Aside0.mk hin
  clear hin
  clear hs hi hi2
  go_enter Try.func23, Try.ntmps23
  go_upto_region 5 with (go_at_call 44; refine (spec_l00In.calls bit 0 727 true _ HIN.out).mono ?_; rintro e w' ⟨rfl, ⟨nd, rfl⟩⟩)
  have HB1 := Aside0.mk (pw_below_drewN (Below.refl w.heap.size w) nd)
  have HZ := Aside0.mk (show w.heap.size ≤ (w.drewN nd).heap.size from Nat.le_refl _)
  generalize w.drewN nd = w1 at HB1 HZ ⊢
  have hb0 := flip_back s i 3 HI.out (by omega) (grownCap w1 s.size 0 5) w1
  have hconv := run_bytes_of_string (P := Try.prog) w1 9 33 5 s Try.underlying9 Try.underlying33 Try.underlying5
  have c0 : (w1.alloc (.cells (bytesRow s (grownCap w1 s.size 0 5)) 5 ((bytesRow s (grownCap w1 s.size 0 5)).size, (bytesRow s (grownCap w1 s.size 0 5)).size + 1))).cell? ⟨w1.heap.size, i, none⟩ = some (.int .u8 (bt s (i : Int))) := by
    rw [World.cell?_alloc_mark, bytesRow_at s _ i HI.out, flip_byte s i HI.out]
  have hsz : i < (bytesRow s (grownCap w1 s.size 0 5)).size := by
    have h2 := HI.out
    have h3 : (bytesRow s (grownCap w1 s.size 0 5)).size = s.size + (grownCap w1 s.size 0 5 - s.size) := by
      unfold bytesRow
      simp
    omega
  have z0 : (w1.alloc (.cells (bytesRow s (grownCap w1 s.size 0 5)) 5 ((bytesRow s (grownCap w1 s.size 0 5)).size, (bytesRow s (grownCap w1 s.size 0 5)).size + 1))).frozen? ⟨w1.heap.size, i, none⟩ = false := by
    rw [World.frozen?_alloc_mark]
    simp <;> omega
  generalize grownCap w1 s.size 0 5 = cap at hb0 hconv c0 z0 hsz
  generalize hC : bytesRow s cap = C at hb0 hconv c0 z0 hsz
  have hpow : ((2 ^ 3 : Nat) : Int) = 8 := rfl
  rw [hpow] at hb0
  clear hC hpow hsz
  go_upto_region 6 with (fail)
  have c1 : ((w1.alloc (.cells C 5 (C.size, C.size + 1))).drew).cell? ⟨w1.heap.size, i, none⟩ = some (.int .u8 (bt s (i : Int))) := c0
  have z1 : ((w1.alloc (.cells C 5 (C.size, C.size + 1))).drew).frozen? ⟨w1.heap.size, i, none⟩ = false := z0
  have HBe := Aside0.mk (show Below w.heap.size w ((w1.alloc (.cells C 5 (C.size, C.size + 1))).drew) from below_drew (below_alloc HB1.out _))
  have hback : (convert 33 9 (.slice (some ⟨w1.heap.size, 0, none⟩) s.size cap)).run Try.prog (((w1.alloc (.cells C 5 (C.size, C.size + 1))).drew.setCell ⟨w1.heap.size, i, none⟩ (.int .u8 (Go.bits .xor .u8 (bt s (i : Int)) 8)))) = .ok (.string (flipAt s i 3)) (((w1.alloc (.cells C 5 (C.size, C.size + 1))).drew.setCell ⟨w1.heap.size, i, none⟩ (.int .u8 (Go.bits .xor .u8 (bt s (i : Int)) 8)))) := hb0 _ (fun _ => rfl)
  generalize (w1.alloc (.cells C 5 (C.size, C.size + 1))).drew = wq at c1 z1 hback HBe ⊢
  clear c0 z0 hconv hb0
  go_wp2
  go_ret2
  exact ⟨rfl, below_set HBe.out HZ.out⟩
set_option maxHeartbeats 8000000 in
set_option maxRecDepth 100000 in
theorem flip_spec_4 (s : ByteArray) (bit : Int) (i : Nat) (w : World) (hs : s.size = 91) (hi : i < 91) (e1 : IntKind.i64.wrap (Int.tdiv bit 8) = (i : Int)) (e2 : Int.tmod bit 8 = 4) (hin : spec_l00In.f bit 0 727 = some true) :
    Calls Try.prog 23 #[.string s, .int .i64 bit] w fun e w' => e = .returned (.tuple #[.string (flipAt s i 4), .int .i64 0]) ∧ Below w.heap.size w w' := by
  have hi2 : i < s.size := by omega
  have p1 : (0 : Int) ≤ (i : Int) := by omega
  have q1 : (i : Int) < (s.size : Int) := by omega
  have q2 : i < s.size := hi2
  have HI := Aside0.mk hi2
  have hz1 : ((s.size : Int) != 91) = false := by simp [hs]
  have HIN := Aside0.mk hin
  clear hin
  clear hs hi hi2
  go_enter Try.func23, Try.ntmps23
  go_upto_region 5 with (go_at_call 44; refine (spec_l00In.calls bit 0 727 true _ HIN.out).mono ?_; rintro e w' ⟨rfl, ⟨nd, rfl⟩⟩)
  have HB1 := Aside0.mk (pw_below_drewN (Below.refl w.heap.size w) nd)
  have HZ := Aside0.mk (show w.heap.size ≤ (w.drewN nd).heap.size from Nat.le_refl _)
  generalize w.drewN nd = w1 at HB1 HZ ⊢
  have hb0 := flip_back s i 4 HI.out (by omega) (grownCap w1 s.size 0 5) w1
  have hconv := run_bytes_of_string (P := Try.prog) w1 9 33 5 s Try.underlying9 Try.underlying33 Try.underlying5
  have c0 : (w1.alloc (.cells (bytesRow s (grownCap w1 s.size 0 5)) 5 ((bytesRow s (grownCap w1 s.size 0 5)).size, (bytesRow s (grownCap w1 s.size 0 5)).size + 1))).cell? ⟨w1.heap.size, i, none⟩ = some (.int .u8 (bt s (i : Int))) := by
    rw [World.cell?_alloc_mark, bytesRow_at s _ i HI.out, flip_byte s i HI.out]
  have hsz : i < (bytesRow s (grownCap w1 s.size 0 5)).size := by
    have h2 := HI.out
    have h3 : (bytesRow s (grownCap w1 s.size 0 5)).size = s.size + (grownCap w1 s.size 0 5 - s.size) := by
      unfold bytesRow
      simp
    omega
  have z0 : (w1.alloc (.cells (bytesRow s (grownCap w1 s.size 0 5)) 5 ((bytesRow s (grownCap w1 s.size 0 5)).size, (bytesRow s (grownCap w1 s.size 0 5)).size + 1))).frozen? ⟨w1.heap.size, i, none⟩ = false := by
    rw [World.frozen?_alloc_mark]
    simp <;> omega
  generalize grownCap w1 s.size 0 5 = cap at hb0 hconv c0 z0 hsz
  generalize hC : bytesRow s cap = C at hb0 hconv c0 z0 hsz
  have hpow : ((2 ^ 4 : Nat) : Int) = 16 := rfl
  rw [hpow] at hb0
  clear hC hpow hsz
  go_upto_region 6 with (fail)
  have c1 : ((w1.alloc (.cells C 5 (C.size, C.size + 1))).drew).cell? ⟨w1.heap.size, i, none⟩ = some (.int .u8 (bt s (i : Int))) := c0
  have z1 : ((w1.alloc (.cells C 5 (C.size, C.size + 1))).drew).frozen? ⟨w1.heap.size, i, none⟩ = false := z0
  have HBe := Aside0.mk (show Below w.heap.size w ((w1.alloc (.cells C 5 (C.size, C.size + 1))).drew) from below_drew (below_alloc HB1.out _))
  have hback : (convert 33 9 (.slice (some ⟨w1.heap.size, 0, none⟩) s.size cap)).run Try.prog (((w1.alloc (.cells C 5 (C.size, C.size + 1))).drew.setCell ⟨w1.heap.size, i, none⟩ (.int .u8 (Go.bits .xor .u8 (bt s (i : Int)) 16)))) = .ok (.string (flipAt s i 4)) (((w1.alloc (.cells C 5 (C.size, C.size + 1))).drew.setCell ⟨w1.heap.size, i, none⟩ (.int .u8 (Go.bits .xor .u8 (bt s (i : Int)) 16)))) := hb0 _ (fun _ => rfl)
  generalize (w1.alloc (.cells C 5 (C.size, C.size + 1))).drew = wq at c1 z1 hback HBe ⊢
  clear c0 z0 hconv hb0
  go_wp2
  go_ret2
  exact ⟨rfl, below_set HBe.out HZ.out⟩
set_option maxHeartbeats 8000000 in
set_option maxRecDepth 100000 in
theorem flip_spec_5 (s : ByteArray) (bit : Int) (i : Nat) (w : World) (hs : s.size = 91) (hi : i < 91) (e1 : IntKind.i64.wrap (Int.tdiv bit 8) = (i : Int)) (e2 : Int.tmod bit 8 = 5) (hin : spec_l00In.f bit 0 727 = some true) :
    Calls Try.prog 23 #[.string s, .int .i64 bit] w fun e w' => e = .returned (.tuple #[.string (flipAt s i 5), .int .i64 0]) ∧ Below w.heap.size w w' := by
  have hi2 : i < s.size := by omega
  have p1 : (0 : Int) ≤ (i : Int) := by omega
  have q1 : (i : Int) < (s.size : Int) := by omega
  have q2 : i < s.size := hi2
  have HI := Aside0.mk hi2
  have hz1 : ((s.size : Int) != 91) = false := by simp [hs]
  have HIN := Aside0.mk hin
  clear hin
  clear hs hi hi2
  go_enter Try.func23, Try.ntmps23
  go_upto_region 5 with (go_at_call 44; refine (spec_l00In.calls bit 0 727 true _ HIN.out).mono ?_; rintro e w' ⟨rfl, ⟨nd, rfl⟩⟩)
  have HB1 := Aside0.mk (pw_below_drewN (Below.refl w.heap.size w) nd)
  have HZ := Aside0.mk (show w.heap.size ≤ (w.drewN nd).heap.size from Nat.le_refl _)
  generalize w.drewN nd = w1 at HB1 HZ ⊢
  have hb0 := flip_back s i 5 HI.out (by omega) (grownCap w1 s.size 0 5) w1
  have hconv := run_bytes_of_string (P := Try.prog) w1 9 33 5 s Try.underlying9 Try.underlying33 Try.underlying5
  have c0 : (w1.alloc (.cells (bytesRow s (grownCap w1 s.size 0 5)) 5 ((bytesRow s (grownCap w1 s.size 0 5)).size, (bytesRow s (grownCap w1 s.size 0 5)).size + 1))).cell? ⟨w1.heap.size, i, none⟩ = some (.int .u8 (bt s (i : Int))) := by
    rw [World.cell?_alloc_mark, bytesRow_at s _ i HI.out, flip_byte s i HI.out]
  have hsz : i < (bytesRow s (grownCap w1 s.size 0 5)).size := by
    have h2 := HI.out
    have h3 : (bytesRow s (grownCap w1 s.size 0 5)).size = s.size + (grownCap w1 s.size 0 5 - s.size) := by
      unfold bytesRow
      simp
    omega
  have z0 : (w1.alloc (.cells (bytesRow s (grownCap w1 s.size 0 5)) 5 ((bytesRow s (grownCap w1 s.size 0 5)).size, (bytesRow s (grownCap w1 s.size 0 5)).size + 1))).frozen? ⟨w1.heap.size, i, none⟩ = false := by
    rw [World.frozen?_alloc_mark]
    simp <;> omega
  generalize grownCap w1 s.size 0 5 = cap at hb0 hconv c0 z0 hsz
  generalize hC : bytesRow s cap = C at hb0 hconv c0 z0 hsz
  have hpow : ((2 ^ 5 : Nat) : Int) = 32 := rfl
  rw [hpow] at hb0
  clear hC hpow hsz
  go_upto_region 6 with (fail)
  have c1 : ((w1.alloc (.cells C 5 (C.size, C.size + 1))).drew).cell? ⟨w1.heap.size, i, none⟩ = some (.int .u8 (bt s (i : Int))) := c0
  have z1 : ((w1.alloc (.cells C 5 (C.size, C.size + 1))).drew).frozen? ⟨w1.heap.size, i, none⟩ = false := z0
  have HBe := Aside0.mk (show Below w.heap.size w ((w1.alloc (.cells C 5 (C.size, C.size + 1))).drew) from below_drew (below_alloc HB1.out _))
  have hback : (convert 33 9 (.slice (some ⟨w1.heap.size, 0, none⟩) s.size cap)).run Try.prog (((w1.alloc (.cells C 5 (C.size, C.size + 1))).drew.setCell ⟨w1.heap.size, i, none⟩ (.int .u8 (Go.bits .xor .u8 (bt s (i : Int)) 32)))) = .ok (.string (flipAt s i 5)) (((w1.alloc (.cells C 5 (C.size, C.size + 1))).drew.setCell ⟨w1.heap.size, i, none⟩ (.int .u8 (Go.bits .xor .u8 (bt s (i : Int)) 32)))) := hb0 _ (fun _ => rfl)
  generalize (w1.alloc (.cells C 5 (C.size, C.size + 1))).drew = wq at c1 z1 hback HBe ⊢
  clear c0 z0 hconv hb0
  go_wp2
  go_ret2
  exact ⟨rfl, below_set HBe.out HZ.out⟩
set_option maxHeartbeats 8000000 in
set_option maxRecDepth 100000 in
theorem flip_spec_6 (s : ByteArray) (bit : Int) (i : Nat) (w : World) (hs : s.size = 91) (hi : i < 91) (e1 : IntKind.i64.wrap (Int.tdiv bit 8) = (i : Int)) (e2 : Int.tmod bit 8 = 6) (hin : spec_l00In.f bit 0 727 = some true) :
    Calls Try.prog 23 #[.string s, .int .i64 bit] w fun e w' => e = .returned (.tuple #[.string (flipAt s i 6), .int .i64 0]) ∧ Below w.heap.size w w' := by
  have hi2 : i < s.size := by omega
  have p1 : (0 : Int) ≤ (i : Int) := by omega
  have q1 : (i : Int) < (s.size : Int) := by omega
  have q2 : i < s.size := hi2
  have HI := Aside0.mk hi2
  have hz1 : ((s.size : Int) != 91) = false := by simp [hs]
  have HIN := Aside0.mk hin
  clear hin
  clear hs hi hi2
  go_enter Try.func23, Try.ntmps23
  go_upto_region 5 with (go_at_call 44; refine (spec_l00In.calls bit 0 727 true _ HIN.out).mono ?_; rintro e w' ⟨rfl, ⟨nd, rfl⟩⟩)
  have HB1 := Aside0.mk (pw_below_drewN (Below.refl w.heap.size w) nd)
  have HZ := Aside0.mk (show w.heap.size ≤ (w.drewN nd).heap.size from Nat.le_refl _)
  generalize w.drewN nd = w1 at HB1 HZ ⊢
  have hb0 := flip_back s i 6 HI.out (by omega) (grownCap w1 s.size 0 5) w1
  have hconv := run_bytes_of_string (P := Try.prog) w1 9 33 5 s Try.underlying9 Try.underlying33 Try.underlying5
  have c0 : (w1.alloc (.cells (bytesRow s (grownCap w1 s.size 0 5)) 5 ((bytesRow s (grownCap w1 s.size 0 5)).size, (bytesRow s (grownCap w1 s.size 0 5)).size + 1))).cell? ⟨w1.heap.size, i, none⟩ = some (.int .u8 (bt s (i : Int))) := by
    rw [World.cell?_alloc_mark, bytesRow_at s _ i HI.out, flip_byte s i HI.out]
  have hsz : i < (bytesRow s (grownCap w1 s.size 0 5)).size := by
    have h2 := HI.out
    have h3 : (bytesRow s (grownCap w1 s.size 0 5)).size = s.size + (grownCap w1 s.size 0 5 - s.size) := by
      unfold bytesRow
      simp
    omega
  have z0 : (w1.alloc (.cells (bytesRow s (grownCap w1 s.size 0 5)) 5 ((bytesRow s (grownCap w1 s.size 0 5)).size, (bytesRow s (grownCap w1 s.size 0 5)).size + 1))).frozen? ⟨w1.heap.size, i, none⟩ = false := by
    rw [World.frozen?_alloc_mark]
    simp <;> omega
  generalize grownCap w1 s.size 0 5 = cap at hb0 hconv c0 z0 hsz
  generalize hC : bytesRow s cap = C at hb0 hconv c0 z0 hsz
  have hpow : ((2 ^ 6 : Nat) : Int) = 64 := rfl
  rw [hpow] at hb0
  clear hC hpow hsz
  go_upto_region 6 with (fail)
  have c1 : ((w1.alloc (.cells C 5 (C.size, C.size + 1))).drew).cell? ⟨w1.heap.size, i, none⟩ = some (.int .u8 (bt s (i : Int))) := c0
  have z1 : ((w1.alloc (.cells C 5 (C.size, C.size + 1))).drew).frozen? ⟨w1.heap.size, i, none⟩ = false := z0
  have HBe := Aside0.mk (show Below w.heap.size w ((w1.alloc (.cells C 5 (C.size, C.size + 1))).drew) from below_drew (below_alloc HB1.out _))
  have hback : (convert 33 9 (.slice (some ⟨w1.heap.size, 0, none⟩) s.size cap)).run Try.prog (((w1.alloc (.cells C 5 (C.size, C.size + 1))).drew.setCell ⟨w1.heap.size, i, none⟩ (.int .u8 (Go.bits .xor .u8 (bt s (i : Int)) 64)))) = .ok (.string (flipAt s i 6)) (((w1.alloc (.cells C 5 (C.size, C.size + 1))).drew.setCell ⟨w1.heap.size, i, none⟩ (.int .u8 (Go.bits .xor .u8 (bt s (i : Int)) 64)))) := hb0 _ (fun _ => rfl)
  generalize (w1.alloc (.cells C 5 (C.size, C.size + 1))).drew = wq at c1 z1 hback HBe ⊢
  clear c0 z0 hconv hb0
  go_wp2
  go_ret2
  exact ⟨rfl, below_set HBe.out HZ.out⟩
set_option maxHeartbeats 8000000 in
set_option maxRecDepth 100000 in
theorem flip_spec_7 (s : ByteArray) (bit : Int) (i : Nat) (w : World) (hs : s.size = 91) (hi : i < 91) (e1 : IntKind.i64.wrap (Int.tdiv bit 8) = (i : Int)) (e2 : Int.tmod bit 8 = 7) (hin : spec_l00In.f bit 0 727 = some true) :
    Calls Try.prog 23 #[.string s, .int .i64 bit] w fun e w' => e = .returned (.tuple #[.string (flipAt s i 7), .int .i64 0]) ∧ Below w.heap.size w w' := by
  have hi2 : i < s.size := by omega
  have p1 : (0 : Int) ≤ (i : Int) := by omega
  have q1 : (i : Int) < (s.size : Int) := by omega
  have q2 : i < s.size := hi2
  have HI := Aside0.mk hi2
  have hz1 : ((s.size : Int) != 91) = false := by simp [hs]
  have HIN := Aside0.mk hin
  clear hin
  clear hs hi hi2
  go_enter Try.func23, Try.ntmps23
  go_upto_region 5 with (go_at_call 44; refine (spec_l00In.calls bit 0 727 true _ HIN.out).mono ?_; rintro e w' ⟨rfl, ⟨nd, rfl⟩⟩)
  have HB1 := Aside0.mk (pw_below_drewN (Below.refl w.heap.size w) nd)
  have HZ := Aside0.mk (show w.heap.size ≤ (w.drewN nd).heap.size from Nat.le_refl _)
  generalize w.drewN nd = w1 at HB1 HZ ⊢
  have hb0 := flip_back s i 7 HI.out (by omega) (grownCap w1 s.size 0 5) w1
  have hconv := run_bytes_of_string (P := Try.prog) w1 9 33 5 s Try.underlying9 Try.underlying33 Try.underlying5
  have c0 : (w1.alloc (.cells (bytesRow s (grownCap w1 s.size 0 5)) 5 ((bytesRow s (grownCap w1 s.size 0 5)).size, (bytesRow s (grownCap w1 s.size 0 5)).size + 1))).cell? ⟨w1.heap.size, i, none⟩ = some (.int .u8 (bt s (i : Int))) := by
    rw [World.cell?_alloc_mark, bytesRow_at s _ i HI.out, flip_byte s i HI.out]
  have hsz : i < (bytesRow s (grownCap w1 s.size 0 5)).size := by
    have h2 := HI.out
    have h3 : (bytesRow s (grownCap w1 s.size 0 5)).size = s.size + (grownCap w1 s.size 0 5 - s.size) := by
      unfold bytesRow
      simp
    omega
  have z0 : (w1.alloc (.cells (bytesRow s (grownCap w1 s.size 0 5)) 5 ((bytesRow s (grownCap w1 s.size 0 5)).size, (bytesRow s (grownCap w1 s.size 0 5)).size + 1))).frozen? ⟨w1.heap.size, i, none⟩ = false := by
    rw [World.frozen?_alloc_mark]
    simp <;> omega
  generalize grownCap w1 s.size 0 5 = cap at hb0 hconv c0 z0 hsz
  generalize hC : bytesRow s cap = C at hb0 hconv c0 z0 hsz
  have hpow : ((2 ^ 7 : Nat) : Int) = 128 := rfl
  rw [hpow] at hb0
  clear hC hpow hsz
  go_upto_region 6 with (fail)
  have c1 : ((w1.alloc (.cells C 5 (C.size, C.size + 1))).drew).cell? ⟨w1.heap.size, i, none⟩ = some (.int .u8 (bt s (i : Int))) := c0
  have z1 : ((w1.alloc (.cells C 5 (C.size, C.size + 1))).drew).frozen? ⟨w1.heap.size, i, none⟩ = false := z0
  have HBe := Aside0.mk (show Below w.heap.size w ((w1.alloc (.cells C 5 (C.size, C.size + 1))).drew) from below_drew (below_alloc HB1.out _))
  have hback : (convert 33 9 (.slice (some ⟨w1.heap.size, 0, none⟩) s.size cap)).run Try.prog (((w1.alloc (.cells C 5 (C.size, C.size + 1))).drew.setCell ⟨w1.heap.size, i, none⟩ (.int .u8 (Go.bits .xor .u8 (bt s (i : Int)) 128)))) = .ok (.string (flipAt s i 7)) (((w1.alloc (.cells C 5 (C.size, C.size + 1))).drew.setCell ⟨w1.heap.size, i, none⟩ (.int .u8 (Go.bits .xor .u8 (bt s (i : Int)) 128)))) := hb0 _ (fun _ => rfl)
  generalize (w1.alloc (.cells C 5 (C.size, C.size + 1))).drew = wq at c1 z1 hback HBe ⊢
  clear c0 z0 hconv hb0
  go_wp2
  go_ret2
  exact ⟨rfl, below_set HBe.out HZ.out⟩
def spec_FlipPageBit.f (a0 : ByteArray) (a1 : Int) : Option (ByteArray × Int) := if a0.size = 91 then (spec_l00In.f a1 0 727).bind fun t => (if t = true then some (flipS a0 a1, 0) else some ((⟨#[]⟩ : ByteArray), 2)) else some ((⟨#[]⟩ : ByteArray), 1)
set_option maxHeartbeats 8000000 in
set_option maxRecDepth 100000 in
theorem spec_FlipPageBit.calls (a0 : ByteArray) (a1 : Int) (r1 : ByteArray) (r2 : Int) (w : World) (h : spec_FlipPageBit.f a0 a1 = some (r1, r2)) :
    Calls Try.prog 23 #[.string a0, .int .i64 a1] w fun e w' => e = .returned (.tuple #[.string r1, .int .i64 r2]) ∧ Below w.heap.size w w' := by
  unfold spec_FlipPageBit.f at h
  by_cases hs : a0.size = 91
  case neg =>
    rw [if_neg hs] at h
    simp only [Option.some.injEq, Prod.mk.injEq] at h
    obtain ⟨rfl, rfl⟩ := h
    have hz1 : ((a0.size : Int) != 91) = true := by simp; omega
    clear hs
    go_enter Try.func23, Try.ntmps23
    go_wp2
    go_ret2
    exact ⟨rfl, Below.refl _ _⟩
  rw [if_pos hs] at h
  obtain ⟨t, hin, h⟩ := Option.bind_eq_some_iff.mp h
  replace h : (if t = true then some (flipS a0 a1, 0) else some ((⟨#[]⟩ : ByteArray), 2)) = some (r1, r2) := h
  cases t with
  | false =>
    rw [if_neg (by simp)] at h
    simp only [Option.some.injEq, Prod.mk.injEq] at h
    obtain ⟨rfl, rfl⟩ := h
    have hz1 : ((a0.size : Int) != 91) = false := by simp [hs]
    have HIN := Aside0.mk hin
    clear hs hin
    go_enter Try.func23, Try.ntmps23
    go_wp2_with (go_at_call 44; refine (spec_l00In.calls a1 0 727 false _ HIN.out).mono ?_; rintro e w' ⟨rfl, ⟨nd, rfl⟩⟩)
    go_ret2
    exact ⟨rfl, pw_below_drewN (Below.refl _ _) nd⟩
  | true =>
    rw [if_pos rfl] at h
    simp only [Option.some.injEq, Prod.mk.injEq] at h
    obtain ⟨rfl, rfl⟩ := h
    have hc1 : 0 ≤ a1 := by
      have h2 := hin
      unfold spec_l00In.f at h2
      by_cases c : a1 ≥ 0
      · exact c
      · rw [if_neg c] at h2
        exact absurd h2 (by simp)
    have hc2 : a1 ≤ 727 := by
      have h2 := hin
      unfold spec_l00In.f at h2
      rw [if_pos hc1] at h2
      exact of_decide_eq_true (Option.some.inj h2)
    have hj : a1.toNat % 8 = 0 ∨ a1.toNat % 8 = 1 ∨ a1.toNat % 8 = 2 ∨ a1.toNat % 8 = 3 ∨ a1.toNat % 8 = 4 ∨ a1.toNat % 8 = 5 ∨ a1.toNat % 8 = 6 ∨ a1.toNat % 8 = 7 := by omega
    obtain ⟨g1, g2, g3, g4⟩ := flip_num hc1 hc2
    unfold flipS
    rcases hj with hj | hj | hj | hj | hj | hj | hj | hj
    · rw [hj]; rw [hj] at g2; exact flip_spec_0 a0 a1 _ w hs g3 g1 g2 hin
    · rw [hj]; rw [hj] at g2; exact flip_spec_1 a0 a1 _ w hs g3 g1 g2 hin
    · rw [hj]; rw [hj] at g2; exact flip_spec_2 a0 a1 _ w hs g3 g1 g2 hin
    · rw [hj]; rw [hj] at g2; exact flip_spec_3 a0 a1 _ w hs g3 g1 g2 hin
    · rw [hj]; rw [hj] at g2; exact flip_spec_4 a0 a1 _ w hs g3 g1 g2 hin
    · rw [hj]; rw [hj] at g2; exact flip_spec_5 a0 a1 _ w hs g3 g1 g2 hin
    · rw [hj]; rw [hj] at g2; exact flip_spec_6 a0 a1 _ w hs g3 g1 g2 hin
    · rw [hj]; rw [hj] at g2; exact flip_spec_7 a0 a1 _ w hs g3 g1 g2 hin

/-! ### impl_within: function 45 -/
def impl_within.f (a0 : Int) (a1 : Int) (a2 : Int) : Option (Bool) := if a0 ≥ a1 then (some (decide (a0 ≤ a2))) else (some false)
set_option maxHeartbeats 8000000 in
set_option maxRecDepth 100000 in
theorem impl_within.calls (a0 : Int) (a1 : Int) (a2 : Int) (r : Bool) (w : World) (h : impl_within.f a0 a1 a2 = some r) :
    Calls Try.prog 45 #[.int .i64 a0, .int .i64 a1, .int .i64 a2] w fun e w' => e = .returned (.bool r) ∧ Drawn0 w w' := by
  have H : (if a0 ≥ a1 then (some (decide (a0 ≤ a2))) else (some false)) = some r := h
  clear h
  by_cases c4 : a0 ≥ a1
  · rw [if_pos c4] at H
    have c4b0 : decide (a1 ≤ a0) = true := decide_eq_true c4
    clear c4
    obtain rfl := Option.some.inj H
    go_enter Try.func45, Try.ntmps45
    go_wp2
    go_ret
    exact ⟨by first | rfl | (simp; done) | (simp [*]; done), by repeat (first | exact Drawn0.refl _ | apply Drawn0.step)⟩
  · rw [if_neg c4] at H
    have c4b0 : decide (a1 ≤ a0) = false := decide_eq_false c4
    clear c4
    obtain rfl := Option.some.inj H
    go_enter Try.func45, Try.ntmps45
    go_wp2
    go_ret
    exact ⟨by first | rfl | (simp; done) | (simp [*]; done), by repeat (first | exact Drawn0.refl _ | apply Drawn0.step)⟩

/-! ### impl_flippedBit: function 49 (a text of the session's own) -/
set_option maxHeartbeats 8000000 in
set_option maxRecDepth 100000 in
theorem flip_impl_0 (s : ByteArray) (bit : Int) (i : Nat) (w : World) (hs : s.size = 91) (hi : i < 91) (e1 : IntKind.i64.wrap (Int.tdiv bit 8) = (i : Int)) (e2 : Int.tmod bit 8 = 0) :
    Calls Try.prog 49 #[.string s, .int .i64 bit] w fun e w' => e = .returned (.string (flipAt s i 0)) ∧ Below w.heap.size w w' := by
  have hi2 : i < s.size := by omega
  have p1 : (0 : Int) ≤ (i : Int) := by omega
  have q1 : (i : Int) < (s.size : Int) := by omega
  have q2 : i < s.size := hi2
  have HI := Aside0.mk hi2
  clear hs hi hi2
  go_enter Try.func49, Try.ntmps49
  go_upto_region 1 with (fail)
  have HB1 := Aside0.mk (Below.refl w.heap.size w)
  have HZ := Aside0.mk (Nat.le_refl w.heap.size)
  have hb0 := flip_back s i 0 HI.out (by omega) (grownCap w s.size 0 5) w
  have hconv := run_bytes_of_string (P := Try.prog) w 9 33 5 s Try.underlying9 Try.underlying33 Try.underlying5
  have c0 : (w.alloc (.cells (bytesRow s (grownCap w s.size 0 5)) 5 ((bytesRow s (grownCap w s.size 0 5)).size, (bytesRow s (grownCap w s.size 0 5)).size + 1))).cell? ⟨w.heap.size, i, none⟩ = some (.int .u8 (bt s (i : Int))) := by
    rw [World.cell?_alloc_mark, bytesRow_at s _ i HI.out, flip_byte s i HI.out]
  have hsz : i < (bytesRow s (grownCap w s.size 0 5)).size := by
    have h2 := HI.out
    have h3 : (bytesRow s (grownCap w s.size 0 5)).size = s.size + (grownCap w s.size 0 5 - s.size) := by
      unfold bytesRow
      simp
    omega
  have z0 : (w.alloc (.cells (bytesRow s (grownCap w s.size 0 5)) 5 ((bytesRow s (grownCap w s.size 0 5)).size, (bytesRow s (grownCap w s.size 0 5)).size + 1))).frozen? ⟨w.heap.size, i, none⟩ = false := by
    rw [World.frozen?_alloc_mark]
    simp <;> omega
  generalize grownCap w s.size 0 5 = cap at hb0 hconv c0 z0 hsz
  generalize hC : bytesRow s cap = C at hb0 hconv c0 z0 hsz
  have hpow : ((2 ^ 0 : Nat) : Int) = 1 := rfl
  rw [hpow] at hb0
  clear hC hpow hsz
  go_upto_region 2 with (fail)
  have c1 : ((w.alloc (.cells C 5 (C.size, C.size + 1))).drew).cell? ⟨w.heap.size, i, none⟩ = some (.int .u8 (bt s (i : Int))) := c0
  have z1 : ((w.alloc (.cells C 5 (C.size, C.size + 1))).drew).frozen? ⟨w.heap.size, i, none⟩ = false := z0
  have HBe := Aside0.mk (show Below w.heap.size w ((w.alloc (.cells C 5 (C.size, C.size + 1))).drew) from below_drew (below_alloc HB1.out _))
  have hback : (convert 33 9 (.slice (some ⟨w.heap.size, 0, none⟩) s.size cap)).run Try.prog (((w.alloc (.cells C 5 (C.size, C.size + 1))).drew.setCell ⟨w.heap.size, i, none⟩ (.int .u8 (Go.bits .xor .u8 (bt s (i : Int)) 1))).drew) = .ok (.string (flipAt s i 0)) (((w.alloc (.cells C 5 (C.size, C.size + 1))).drew.setCell ⟨w.heap.size, i, none⟩ (.int .u8 (Go.bits .xor .u8 (bt s (i : Int)) 1))).drew) := hb0 _ (fun _ => rfl)
  generalize (w.alloc (.cells C 5 (C.size, C.size + 1))).drew = wq at c1 z1 hback HBe ⊢
  clear c0 z0 hconv hb0
  go_region
  go_wp2
  go_ret
  exact ⟨rfl, below_drew (below_set HBe.out HZ.out)⟩
set_option maxHeartbeats 8000000 in
set_option maxRecDepth 100000 in
theorem flip_impl_1 (s : ByteArray) (bit : Int) (i : Nat) (w : World) (hs : s.size = 91) (hi : i < 91) (e1 : IntKind.i64.wrap (Int.tdiv bit 8) = (i : Int)) (e2 : Int.tmod bit 8 = 1) :
    Calls Try.prog 49 #[.string s, .int .i64 bit] w fun e w' => e = .returned (.string (flipAt s i 1)) ∧ Below w.heap.size w w' := by
  have hi2 : i < s.size := by omega
  have p1 : (0 : Int) ≤ (i : Int) := by omega
  have q1 : (i : Int) < (s.size : Int) := by omega
  have q2 : i < s.size := hi2
  have HI := Aside0.mk hi2
  clear hs hi hi2
  go_enter Try.func49, Try.ntmps49
  go_upto_region 1 with (fail)
  have HB1 := Aside0.mk (Below.refl w.heap.size w)
  have HZ := Aside0.mk (Nat.le_refl w.heap.size)
  have hb0 := flip_back s i 1 HI.out (by omega) (grownCap w s.size 0 5) w
  have hconv := run_bytes_of_string (P := Try.prog) w 9 33 5 s Try.underlying9 Try.underlying33 Try.underlying5
  have c0 : (w.alloc (.cells (bytesRow s (grownCap w s.size 0 5)) 5 ((bytesRow s (grownCap w s.size 0 5)).size, (bytesRow s (grownCap w s.size 0 5)).size + 1))).cell? ⟨w.heap.size, i, none⟩ = some (.int .u8 (bt s (i : Int))) := by
    rw [World.cell?_alloc_mark, bytesRow_at s _ i HI.out, flip_byte s i HI.out]
  have hsz : i < (bytesRow s (grownCap w s.size 0 5)).size := by
    have h2 := HI.out
    have h3 : (bytesRow s (grownCap w s.size 0 5)).size = s.size + (grownCap w s.size 0 5 - s.size) := by
      unfold bytesRow
      simp
    omega
  have z0 : (w.alloc (.cells (bytesRow s (grownCap w s.size 0 5)) 5 ((bytesRow s (grownCap w s.size 0 5)).size, (bytesRow s (grownCap w s.size 0 5)).size + 1))).frozen? ⟨w.heap.size, i, none⟩ = false := by
    rw [World.frozen?_alloc_mark]
    simp <;> omega
  generalize grownCap w s.size 0 5 = cap at hb0 hconv c0 z0 hsz
  generalize hC : bytesRow s cap = C at hb0 hconv c0 z0 hsz
  have hpow : ((2 ^ 1 : Nat) : Int) = 2 := rfl
  rw [hpow] at hb0
  clear hC hpow hsz
  go_upto_region 2 with (fail)
  have c1 : ((w.alloc (.cells C 5 (C.size, C.size + 1))).drew).cell? ⟨w.heap.size, i, none⟩ = some (.int .u8 (bt s (i : Int))) := c0
  have z1 : ((w.alloc (.cells C 5 (C.size, C.size + 1))).drew).frozen? ⟨w.heap.size, i, none⟩ = false := z0
  have HBe := Aside0.mk (show Below w.heap.size w ((w.alloc (.cells C 5 (C.size, C.size + 1))).drew) from below_drew (below_alloc HB1.out _))
  have hback : (convert 33 9 (.slice (some ⟨w.heap.size, 0, none⟩) s.size cap)).run Try.prog (((w.alloc (.cells C 5 (C.size, C.size + 1))).drew.setCell ⟨w.heap.size, i, none⟩ (.int .u8 (Go.bits .xor .u8 (bt s (i : Int)) 2))).drew) = .ok (.string (flipAt s i 1)) (((w.alloc (.cells C 5 (C.size, C.size + 1))).drew.setCell ⟨w.heap.size, i, none⟩ (.int .u8 (Go.bits .xor .u8 (bt s (i : Int)) 2))).drew) := hb0 _ (fun _ => rfl)
  generalize (w.alloc (.cells C 5 (C.size, C.size + 1))).drew = wq at c1 z1 hback HBe ⊢
  clear c0 z0 hconv hb0
  go_region
  go_wp2
  go_ret
  exact ⟨rfl, below_drew (below_set HBe.out HZ.out)⟩
set_option maxHeartbeats 8000000 in
set_option maxRecDepth 100000 in
theorem flip_impl_2 (s : ByteArray) (bit : Int) (i : Nat) (w : World) (hs : s.size = 91) (hi : i < 91) (e1 : IntKind.i64.wrap (Int.tdiv bit 8) = (i : Int)) (e2 : Int.tmod bit 8 = 2) :
    Calls Try.prog 49 #[.string s, .int .i64 bit] w fun e w' => e = .returned (.string (flipAt s i 2)) ∧ Below w.heap.size w w' := by
  have hi2 : i < s.size := by omega
  have p1 : (0 : Int) ≤ (i : Int) := by omega
  have q1 : (i : Int) < (s.size : Int) := by omega
  have q2 : i < s.size := hi2
  have HI := Aside0.mk hi2
  clear hs hi hi2
  go_enter Try.func49, Try.ntmps49
  go_upto_region 1 with (fail)
  have HB1 := Aside0.mk (Below.refl w.heap.size w)
  have HZ := Aside0.mk (Nat.le_refl w.heap.size)
  have hb0 := flip_back s i 2 HI.out (by omega) (grownCap w s.size 0 5) w
  have hconv := run_bytes_of_string (P := Try.prog) w 9 33 5 s Try.underlying9 Try.underlying33 Try.underlying5
  have c0 : (w.alloc (.cells (bytesRow s (grownCap w s.size 0 5)) 5 ((bytesRow s (grownCap w s.size 0 5)).size, (bytesRow s (grownCap w s.size 0 5)).size + 1))).cell? ⟨w.heap.size, i, none⟩ = some (.int .u8 (bt s (i : Int))) := by
    rw [World.cell?_alloc_mark, bytesRow_at s _ i HI.out, flip_byte s i HI.out]
  have hsz : i < (bytesRow s (grownCap w s.size 0 5)).size := by
    have h2 := HI.out
    have h3 : (bytesRow s (grownCap w s.size 0 5)).size = s.size + (grownCap w s.size 0 5 - s.size) := by
      unfold bytesRow
      simp
    omega
  have z0 : (w.alloc (.cells (bytesRow s (grownCap w s.size 0 5)) 5 ((bytesRow s (grownCap w s.size 0 5)).size, (bytesRow s (grownCap w s.size 0 5)).size + 1))).frozen? ⟨w.heap.size, i, none⟩ = false := by
    rw [World.frozen?_alloc_mark]
    simp <;> omega
  generalize grownCap w s.size 0 5 = cap at hb0 hconv c0 z0 hsz
  generalize hC : bytesRow s cap = C at hb0 hconv c0 z0 hsz
  have hpow : ((2 ^ 2 : Nat) : Int) = 4 := rfl
  rw [hpow] at hb0
  clear hC hpow hsz
  go_upto_region 2 with (fail)
  have c1 : ((w.alloc (.cells C 5 (C.size, C.size + 1))).drew).cell? ⟨w.heap.size, i, none⟩ = some (.int .u8 (bt s (i : Int))) := c0
  have z1 : ((w.alloc (.cells C 5 (C.size, C.size + 1))).drew).frozen? ⟨w.heap.size, i, none⟩ = false := z0
  have HBe := Aside0.mk (show Below w.heap.size w ((w.alloc (.cells C 5 (C.size, C.size + 1))).drew) from below_drew (below_alloc HB1.out _))
  have hback : (convert 33 9 (.slice (some ⟨w.heap.size, 0, none⟩) s.size cap)).run Try.prog (((w.alloc (.cells C 5 (C.size, C.size + 1))).drew.setCell ⟨w.heap.size, i, none⟩ (.int .u8 (Go.bits .xor .u8 (bt s (i : Int)) 4))).drew) = .ok (.string (flipAt s i 2)) (((w.alloc (.cells C 5 (C.size, C.size + 1))).drew.setCell ⟨w.heap.size, i, none⟩ (.int .u8 (Go.bits .xor .u8 (bt s (i : Int)) 4))).drew) := hb0 _ (fun _ => rfl)
  generalize (w.alloc (.cells C 5 (C.size, C.size + 1))).drew = wq at c1 z1 hback HBe ⊢
  clear c0 z0 hconv hb0
  go_region
  go_wp2
  go_ret
  exact ⟨rfl, below_drew (below_set HBe.out HZ.out)⟩
set_option maxHeartbeats 8000000 in
set_option maxRecDepth 100000 in
theorem flip_impl_3 (s : ByteArray) (bit : Int) (i : Nat) (w : World) (hs : s.size = 91) (hi : i < 91) (e1 : IntKind.i64.wrap (Int.tdiv bit 8) = (i : Int)) (e2 : Int.tmod bit 8 = 3) :
    Calls Try.prog 49 #[.string s, .int .i64 bit] w fun e w' => e = .returned (.string (flipAt s i 3)) ∧ Below w.heap.size w w' := by
  have hi2 : i < s.size := by omega
  have p1 : (0 : Int) ≤ (i : Int) := by omega
  have q1 : (i : Int) < (s.size : Int) := by omega
  have q2 : i < s.size := hi2
  have HI := Aside0.mk hi2
  clear hs hi hi2
  go_enter Try.func49, Try.ntmps49
  go_upto_region 1 with (fail)
  have HB1 := Aside0.mk (Below.refl w.heap.size w)
  have HZ := Aside0.mk (Nat.le_refl w.heap.size)
  have hb0 := flip_back s i 3 HI.out (by omega) (grownCap w s.size 0 5) w
  have hconv := run_bytes_of_string (P := Try.prog) w 9 33 5 s Try.underlying9 Try.underlying33 Try.underlying5
  have c0 : (w.alloc (.cells (bytesRow s (grownCap w s.size 0 5)) 5 ((bytesRow s (grownCap w s.size 0 5)).size, (bytesRow s (grownCap w s.size 0 5)).size + 1))).cell? ⟨w.heap.size, i, none⟩ = some (.int .u8 (bt s (i : Int))) := by
    rw [World.cell?_alloc_mark, bytesRow_at s _ i HI.out, flip_byte s i HI.out]
  have hsz : i < (bytesRow s (grownCap w s.size 0 5)).size := by
    have h2 := HI.out
    have h3 : (bytesRow s (grownCap w s.size 0 5)).size = s.size + (grownCap w s.size 0 5 - s.size) := by
      unfold bytesRow
      simp
    omega
  have z0 : (w.alloc (.cells (bytesRow s (grownCap w s.size 0 5)) 5 ((bytesRow s (grownCap w s.size 0 5)).size, (bytesRow s (grownCap w s.size 0 5)).size + 1))).frozen? ⟨w.heap.size, i, none⟩ = false := by
    rw [World.frozen?_alloc_mark]
    simp <;> omega
  generalize grownCap w s.size 0 5 = cap at hb0 hconv c0 z0 hsz
  generalize hC : bytesRow s cap = C at hb0 hconv c0 z0 hsz
  have hpow : ((2 ^ 3 : Nat) : Int) = 8 := rfl
  rw [hpow] at hb0
  clear hC hpow hsz
  go_upto_region 2 with (fail)
  have c1 : ((w.alloc (.cells C 5 (C.size, C.size + 1))).drew).cell? ⟨w.heap.size, i, none⟩ = some (.int .u8 (bt s (i : Int))) := c0
  have z1 : ((w.alloc (.cells C 5 (C.size, C.size + 1))).drew).frozen? ⟨w.heap.size, i, none⟩ = false := z0
  have HBe := Aside0.mk (show Below w.heap.size w ((w.alloc (.cells C 5 (C.size, C.size + 1))).drew) from below_drew (below_alloc HB1.out _))
  have hback : (convert 33 9 (.slice (some ⟨w.heap.size, 0, none⟩) s.size cap)).run Try.prog (((w.alloc (.cells C 5 (C.size, C.size + 1))).drew.setCell ⟨w.heap.size, i, none⟩ (.int .u8 (Go.bits .xor .u8 (bt s (i : Int)) 8))).drew) = .ok (.string (flipAt s i 3)) (((w.alloc (.cells C 5 (C.size, C.size + 1))).drew.setCell ⟨w.heap.size, i, none⟩ (.int .u8 (Go.bits .xor .u8 (bt s (i : Int)) 8))).drew) := hb0 _ (fun _ => rfl)
  generalize (w.alloc (.cells C 5 (C.size, C.size + 1))).drew = wq at c1 z1 hback HBe ⊢
  clear c0 z0 hconv hb0
  go_region
  go_wp2
  go_ret
  exact ⟨rfl, below_drew (below_set HBe.out HZ.out)⟩
set_option maxHeartbeats 8000000 in
set_option maxRecDepth 100000 in
theorem flip_impl_4 (s : ByteArray) (bit : Int) (i : Nat) (w : World) (hs : s.size = 91) (hi : i < 91) (e1 : IntKind.i64.wrap (Int.tdiv bit 8) = (i : Int)) (e2 : Int.tmod bit 8 = 4) :
    Calls Try.prog 49 #[.string s, .int .i64 bit] w fun e w' => e = .returned (.string (flipAt s i 4)) ∧ Below w.heap.size w w' := by
  have hi2 : i < s.size := by omega
  have p1 : (0 : Int) ≤ (i : Int) := by omega
  have q1 : (i : Int) < (s.size : Int) := by omega
  have q2 : i < s.size := hi2
  have HI := Aside0.mk hi2
  clear hs hi hi2
  go_enter Try.func49, Try.ntmps49
  go_upto_region 1 with (fail)
  have HB1 := Aside0.mk (Below.refl w.heap.size w)
  have HZ := Aside0.mk (Nat.le_refl w.heap.size)
  have hb0 := flip_back s i 4 HI.out (by omega) (grownCap w s.size 0 5) w
  have hconv := run_bytes_of_string (P := Try.prog) w 9 33 5 s Try.underlying9 Try.underlying33 Try.underlying5
  have c0 : (w.alloc (.cells (bytesRow s (grownCap w s.size 0 5)) 5 ((bytesRow s (grownCap w s.size 0 5)).size, (bytesRow s (grownCap w s.size 0 5)).size + 1))).cell? ⟨w.heap.size, i, none⟩ = some (.int .u8 (bt s (i : Int))) := by
    rw [World.cell?_alloc_mark, bytesRow_at s _ i HI.out, flip_byte s i HI.out]
  have hsz : i < (bytesRow s (grownCap w s.size 0 5)).size := by
    have h2 := HI.out
    have h3 : (bytesRow s (grownCap w s.size 0 5)).size = s.size + (grownCap w s.size 0 5 - s.size) := by
      unfold bytesRow
      simp
    omega
  have z0 : (w.alloc (.cells (bytesRow s (grownCap w s.size 0 5)) 5 ((bytesRow s (grownCap w s.size 0 5)).size, (bytesRow s (grownCap w s.size 0 5)).size + 1))).frozen? ⟨w.heap.size, i, none⟩ = false := by
    rw [World.frozen?_alloc_mark]
    simp <;> omega
  generalize grownCap w s.size 0 5 = cap at hb0 hconv c0 z0 hsz
  generalize hC : bytesRow s cap = C at hb0 hconv c0 z0 hsz
  have hpow : ((2 ^ 4 : Nat) : Int) = 16 := rfl
  rw [hpow] at hb0
  clear hC hpow hsz
  go_upto_region 2 with (fail)
  have c1 : ((w.alloc (.cells C 5 (C.size, C.size + 1))).drew).cell? ⟨w.heap.size, i, none⟩ = some (.int .u8 (bt s (i : Int))) := c0
  have z1 : ((w.alloc (.cells C 5 (C.size, C.size + 1))).drew).frozen? ⟨w.heap.size, i, none⟩ = false := z0
  have HBe := Aside0.mk (show Below w.heap.size w ((w.alloc (.cells C 5 (C.size, C.size + 1))).drew) from below_drew (below_alloc HB1.out _))
  have hback : (convert 33 9 (.slice (some ⟨w.heap.size, 0, none⟩) s.size cap)).run Try.prog (((w.alloc (.cells C 5 (C.size, C.size + 1))).drew.setCell ⟨w.heap.size, i, none⟩ (.int .u8 (Go.bits .xor .u8 (bt s (i : Int)) 16))).drew) = .ok (.string (flipAt s i 4)) (((w.alloc (.cells C 5 (C.size, C.size + 1))).drew.setCell ⟨w.heap.size, i, none⟩ (.int .u8 (Go.bits .xor .u8 (bt s (i : Int)) 16))).drew) := hb0 _ (fun _ => rfl)
  generalize (w.alloc (.cells C 5 (C.size, C.size + 1))).drew = wq at c1 z1 hback HBe ⊢
  clear c0 z0 hconv hb0
  go_region
  go_wp2
  go_ret
  exact ⟨rfl, below_drew (below_set HBe.out HZ.out)⟩
set_option maxHeartbeats 8000000 in
set_option maxRecDepth 100000 in
theorem flip_impl_5 (s : ByteArray) (bit : Int) (i : Nat) (w : World) (hs : s.size = 91) (hi : i < 91) (e1 : IntKind.i64.wrap (Int.tdiv bit 8) = (i : Int)) (e2 : Int.tmod bit 8 = 5) :
    Calls Try.prog 49 #[.string s, .int .i64 bit] w fun e w' => e = .returned (.string (flipAt s i 5)) ∧ Below w.heap.size w w' := by
  have hi2 : i < s.size := by omega
  have p1 : (0 : Int) ≤ (i : Int) := by omega
  have q1 : (i : Int) < (s.size : Int) := by omega
  have q2 : i < s.size := hi2
  have HI := Aside0.mk hi2
  clear hs hi hi2
  go_enter Try.func49, Try.ntmps49
  go_upto_region 1 with (fail)
  have HB1 := Aside0.mk (Below.refl w.heap.size w)
  have HZ := Aside0.mk (Nat.le_refl w.heap.size)
  have hb0 := flip_back s i 5 HI.out (by omega) (grownCap w s.size 0 5) w
  have hconv := run_bytes_of_string (P := Try.prog) w 9 33 5 s Try.underlying9 Try.underlying33 Try.underlying5
  have c0 : (w.alloc (.cells (bytesRow s (grownCap w s.size 0 5)) 5 ((bytesRow s (grownCap w s.size 0 5)).size, (bytesRow s (grownCap w s.size 0 5)).size + 1))).cell? ⟨w.heap.size, i, none⟩ = some (.int .u8 (bt s (i : Int))) := by
    rw [World.cell?_alloc_mark, bytesRow_at s _ i HI.out, flip_byte s i HI.out]
  have hsz : i < (bytesRow s (grownCap w s.size 0 5)).size := by
    have h2 := HI.out
    have h3 : (bytesRow s (grownCap w s.size 0 5)).size = s.size + (grownCap w s.size 0 5 - s.size) := by
      unfold bytesRow
      simp
    omega
  have z0 : (w.alloc (.cells (bytesRow s (grownCap w s.size 0 5)) 5 ((bytesRow s (grownCap w s.size 0 5)).size, (bytesRow s (grownCap w s.size 0 5)).size + 1))).frozen? ⟨w.heap.size, i, none⟩ = false := by
    rw [World.frozen?_alloc_mark]
    simp <;> omega
  generalize grownCap w s.size 0 5 = cap at hb0 hconv c0 z0 hsz
  generalize hC : bytesRow s cap = C at hb0 hconv c0 z0 hsz
  have hpow : ((2 ^ 5 : Nat) : Int) = 32 := rfl
  rw [hpow] at hb0
  clear hC hpow hsz
  go_upto_region 2 with (fail)
  have c1 : ((w.alloc (.cells C 5 (C.size, C.size + 1))).drew).cell? ⟨w.heap.size, i, none⟩ = some (.int .u8 (bt s (i : Int))) := c0
  have z1 : ((w.alloc (.cells C 5 (C.size, C.size + 1))).drew).frozen? ⟨w.heap.size, i, none⟩ = false := z0
  have HBe := Aside0.mk (show Below w.heap.size w ((w.alloc (.cells C 5 (C.size, C.size + 1))).drew) from below_drew (below_alloc HB1.out _))
  have hback : (convert 33 9 (.slice (some ⟨w.heap.size, 0, none⟩) s.size cap)).run Try.prog (((w.alloc (.cells C 5 (C.size, C.size + 1))).drew.setCell ⟨w.heap.size, i, none⟩ (.int .u8 (Go.bits .xor .u8 (bt s (i : Int)) 32))).drew) = .ok (.string (flipAt s i 5)) (((w.alloc (.cells C 5 (C.size, C.size + 1))).drew.setCell ⟨w.heap.size, i, none⟩ (.int .u8 (Go.bits .xor .u8 (bt s (i : Int)) 32))).drew) := hb0 _ (fun _ => rfl)
  generalize (w.alloc (.cells C 5 (C.size, C.size + 1))).drew = wq at c1 z1 hback HBe ⊢
  clear c0 z0 hconv hb0
  go_region
  go_wp2
  go_ret
  exact ⟨rfl, below_drew (below_set HBe.out HZ.out)⟩
set_option maxHeartbeats 8000000 in
set_option maxRecDepth 100000 in
theorem flip_impl_6 (s : ByteArray) (bit : Int) (i : Nat) (w : World) (hs : s.size = 91) (hi : i < 91) (e1 : IntKind.i64.wrap (Int.tdiv bit 8) = (i : Int)) (e2 : Int.tmod bit 8 = 6) :
    Calls Try.prog 49 #[.string s, .int .i64 bit] w fun e w' => e = .returned (.string (flipAt s i 6)) ∧ Below w.heap.size w w' := by
  have hi2 : i < s.size := by omega
  have p1 : (0 : Int) ≤ (i : Int) := by omega
  have q1 : (i : Int) < (s.size : Int) := by omega
  have q2 : i < s.size := hi2
  have HI := Aside0.mk hi2
  clear hs hi hi2
  go_enter Try.func49, Try.ntmps49
  go_upto_region 1 with (fail)
  have HB1 := Aside0.mk (Below.refl w.heap.size w)
  have HZ := Aside0.mk (Nat.le_refl w.heap.size)
  have hb0 := flip_back s i 6 HI.out (by omega) (grownCap w s.size 0 5) w
  have hconv := run_bytes_of_string (P := Try.prog) w 9 33 5 s Try.underlying9 Try.underlying33 Try.underlying5
  have c0 : (w.alloc (.cells (bytesRow s (grownCap w s.size 0 5)) 5 ((bytesRow s (grownCap w s.size 0 5)).size, (bytesRow s (grownCap w s.size 0 5)).size + 1))).cell? ⟨w.heap.size, i, none⟩ = some (.int .u8 (bt s (i : Int))) := by
    rw [World.cell?_alloc_mark, bytesRow_at s _ i HI.out, flip_byte s i HI.out]
  have hsz : i < (bytesRow s (grownCap w s.size 0 5)).size := by
    have h2 := HI.out
    have h3 : (bytesRow s (grownCap w s.size 0 5)).size = s.size + (grownCap w s.size 0 5 - s.size) := by
      unfold bytesRow
      simp
    omega
  have z0 : (w.alloc (.cells (bytesRow s (grownCap w s.size 0 5)) 5 ((bytesRow s (grownCap w s.size 0 5)).size, (bytesRow s (grownCap w s.size 0 5)).size + 1))).frozen? ⟨w.heap.size, i, none⟩ = false := by
    rw [World.frozen?_alloc_mark]
    simp <;> omega
  generalize grownCap w s.size 0 5 = cap at hb0 hconv c0 z0 hsz
  generalize hC : bytesRow s cap = C at hb0 hconv c0 z0 hsz
  have hpow : ((2 ^ 6 : Nat) : Int) = 64 := rfl
  rw [hpow] at hb0
  clear hC hpow hsz
  go_upto_region 2 with (fail)
  have c1 : ((w.alloc (.cells C 5 (C.size, C.size + 1))).drew).cell? ⟨w.heap.size, i, none⟩ = some (.int .u8 (bt s (i : Int))) := c0
  have z1 : ((w.alloc (.cells C 5 (C.size, C.size + 1))).drew).frozen? ⟨w.heap.size, i, none⟩ = false := z0
  have HBe := Aside0.mk (show Below w.heap.size w ((w.alloc (.cells C 5 (C.size, C.size + 1))).drew) from below_drew (below_alloc HB1.out _))
  have hback : (convert 33 9 (.slice (some ⟨w.heap.size, 0, none⟩) s.size cap)).run Try.prog (((w.alloc (.cells C 5 (C.size, C.size + 1))).drew.setCell ⟨w.heap.size, i, none⟩ (.int .u8 (Go.bits .xor .u8 (bt s (i : Int)) 64))).drew) = .ok (.string (flipAt s i 6)) (((w.alloc (.cells C 5 (C.size, C.size + 1))).drew.setCell ⟨w.heap.size, i, none⟩ (.int .u8 (Go.bits .xor .u8 (bt s (i : Int)) 64))).drew) := hb0 _ (fun _ => rfl)
  generalize (w.alloc (.cells C 5 (C.size, C.size + 1))).drew = wq at c1 z1 hback HBe ⊢
  clear c0 z0 hconv hb0
  go_region
  go_wp2
  go_ret
  exact ⟨rfl, below_drew (below_set HBe.out HZ.out)⟩
set_option maxHeartbeats 8000000 in
set_option maxRecDepth 100000 in
theorem flip_impl_7 (s : ByteArray) (bit : Int) (i : Nat) (w : World) (hs : s.size = 91) (hi : i < 91) (e1 : IntKind.i64.wrap (Int.tdiv bit 8) = (i : Int)) (e2 : Int.tmod bit 8 = 7) :
    Calls Try.prog 49 #[.string s, .int .i64 bit] w fun e w' => e = .returned (.string (flipAt s i 7)) ∧ Below w.heap.size w w' := by
  have hi2 : i < s.size := by omega
  have p1 : (0 : Int) ≤ (i : Int) := by omega
  have q1 : (i : Int) < (s.size : Int) := by omega
  have q2 : i < s.size := hi2
  have HI := Aside0.mk hi2
  clear hs hi hi2
  go_enter Try.func49, Try.ntmps49
  go_upto_region 1 with (fail)
  have HB1 := Aside0.mk (Below.refl w.heap.size w)
  have HZ := Aside0.mk (Nat.le_refl w.heap.size)
  have hb0 := flip_back s i 7 HI.out (by omega) (grownCap w s.size 0 5) w
  have hconv := run_bytes_of_string (P := Try.prog) w 9 33 5 s Try.underlying9 Try.underlying33 Try.underlying5
  have c0 : (w.alloc (.cells (bytesRow s (grownCap w s.size 0 5)) 5 ((bytesRow s (grownCap w s.size 0 5)).size, (bytesRow s (grownCap w s.size 0 5)).size + 1))).cell? ⟨w.heap.size, i, none⟩ = some (.int .u8 (bt s (i : Int))) := by
    rw [World.cell?_alloc_mark, bytesRow_at s _ i HI.out, flip_byte s i HI.out]
  have hsz : i < (bytesRow s (grownCap w s.size 0 5)).size := by
    have h2 := HI.out
    have h3 : (bytesRow s (grownCap w s.size 0 5)).size = s.size + (grownCap w s.size 0 5 - s.size) := by
      unfold bytesRow
      simp
    omega
  have z0 : (w.alloc (.cells (bytesRow s (grownCap w s.size 0 5)) 5 ((bytesRow s (grownCap w s.size 0 5)).size, (bytesRow s (grownCap w s.size 0 5)).size + 1))).frozen? ⟨w.heap.size, i, none⟩ = false := by
    rw [World.frozen?_alloc_mark]
    simp <;> omega
  generalize grownCap w s.size 0 5 = cap at hb0 hconv c0 z0 hsz
  generalize hC : bytesRow s cap = C at hb0 hconv c0 z0 hsz
  have hpow : ((2 ^ 7 : Nat) : Int) = 128 := rfl
  rw [hpow] at hb0
  clear hC hpow hsz
  go_upto_region 2 with (fail)
  have c1 : ((w.alloc (.cells C 5 (C.size, C.size + 1))).drew).cell? ⟨w.heap.size, i, none⟩ = some (.int .u8 (bt s (i : Int))) := c0
  have z1 : ((w.alloc (.cells C 5 (C.size, C.size + 1))).drew).frozen? ⟨w.heap.size, i, none⟩ = false := z0
  have HBe := Aside0.mk (show Below w.heap.size w ((w.alloc (.cells C 5 (C.size, C.size + 1))).drew) from below_drew (below_alloc HB1.out _))
  have hback : (convert 33 9 (.slice (some ⟨w.heap.size, 0, none⟩) s.size cap)).run Try.prog (((w.alloc (.cells C 5 (C.size, C.size + 1))).drew.setCell ⟨w.heap.size, i, none⟩ (.int .u8 (Go.bits .xor .u8 (bt s (i : Int)) 128))).drew) = .ok (.string (flipAt s i 7)) (((w.alloc (.cells C 5 (C.size, C.size + 1))).drew.setCell ⟨w.heap.size, i, none⟩ (.int .u8 (Go.bits .xor .u8 (bt s (i : Int)) 128))).drew) := hb0 _ (fun _ => rfl)
  generalize (w.alloc (.cells C 5 (C.size, C.size + 1))).drew = wq at c1 z1 hback HBe ⊢
  clear c0 z0 hconv hb0
  go_region
  go_wp2
  go_ret
  exact ⟨rfl, below_drew (below_set HBe.out HZ.out)⟩
def impl_flippedBit.f (a0 : ByteArray) (a1 : Int) : Option ByteArray := if a0.size = 91 ∧ 0 ≤ a1 ∧ a1 ≤ 727 then some (flipS a0 a1) else none
theorem impl_flippedBit.calls (a0 : ByteArray) (a1 : Int) (r : ByteArray) (w : World) (h : impl_flippedBit.f a0 a1 = some r) :
    Calls Try.prog 49 #[.string a0, .int .i64 a1] w fun e w' => e = .returned (.string r) ∧ Below w.heap.size w w' := by
  unfold impl_flippedBit.f at h
  by_cases hc : a0.size = 91 ∧ 0 ≤ a1 ∧ a1 ≤ 727
  case neg =>
    rw [if_neg hc] at h
    exact absurd h (by simp)
  rw [if_pos hc] at h
  obtain rfl := Option.some.inj h
  obtain ⟨hs, hc1, hc2⟩ := hc
  have hj : a1.toNat % 8 = 0 ∨ a1.toNat % 8 = 1 ∨ a1.toNat % 8 = 2 ∨ a1.toNat % 8 = 3 ∨ a1.toNat % 8 = 4 ∨ a1.toNat % 8 = 5 ∨ a1.toNat % 8 = 6 ∨ a1.toNat % 8 = 7 := by omega
  obtain ⟨g1, g2, g3, g4⟩ := flip_num hc1 hc2
  unfold flipS
  rcases hj with hj | hj | hj | hj | hj | hj | hj | hj
  · rw [hj]; rw [hj] at g2; exact flip_impl_0 a0 a1 _ w hs g3 g1 g2
  · rw [hj]; rw [hj] at g2; exact flip_impl_1 a0 a1 _ w hs g3 g1 g2
  · rw [hj]; rw [hj] at g2; exact flip_impl_2 a0 a1 _ w hs g3 g1 g2
  · rw [hj]; rw [hj] at g2; exact flip_impl_3 a0 a1 _ w hs g3 g1 g2
  · rw [hj]; rw [hj] at g2; exact flip_impl_4 a0 a1 _ w hs g3 g1 g2
  · rw [hj]; rw [hj] at g2; exact flip_impl_5 a0 a1 _ w hs g3 g1 g2
  · rw [hj]; rw [hj] at g2; exact flip_impl_6 a0 a1 _ w hs g3 g1 g2
  · rw [hj]; rw [hj] at g2; exact flip_impl_7 a0 a1 _ w hs g3 g1 g2

end Go.Proofs.Ytloemficgiaglaa.QFnExactFlipPageBit
