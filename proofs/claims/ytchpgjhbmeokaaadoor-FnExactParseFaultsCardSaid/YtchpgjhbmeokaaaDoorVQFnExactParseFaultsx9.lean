-- Written by mp.py, a program of this session over the kit's print; the session answers for it, Lean checks it.
import Derived.Test.YtchpgjhbmeokaaaDoorVQFnExactParseFaultsx0
import Derived.Test.YtchpgjhbmeokaaaDoorVQFnExactParseFaultsx8
namespace Go.Proofs.YtchpgjhbmeokaaaDoor.QFnExactParseFaults
open Go.RowKit Go.Proofs.YtchpgjhbmeokaaaDoor.Hand Go.Proofs.YtchpgjhbmeokaaaDoorW.PrintWords Go.Proofs.YtchpgjhbmeokaaaDoorW.PrintLast Go.Proofs.YtchpgjhbmeokaaaDoorW.PrintMore
attribute [local go_sem] max2_int min2_int max_two min_two max_three min_three max_four min_four   -- for this text's walks alone
set_option linter.unusedVariables false
set_option linter.unusedSimpArgs false

/-! ### impl_faultsText: function 19 (a text of the session's own) -/
def wordK (k : Int) : ByteArray := rdOf ByteArray.empty ([(⟨#[]⟩ : ByteArray), (⟨#[98, 105, 116]⟩ : ByteArray), (⟨#[100, 105, 115, 116, 117, 114, 98]⟩ : ByteArray), (⟨#[114, 101, 116, 101, 110, 116, 105, 111, 110]⟩ : ByteArray), (⟨#[98, 108, 111, 99, 107]⟩ : ByteArray), (⟨#[99, 117, 116]⟩ : ByteArray)] : List ByteArray) k
def numsF (x : S40) : List Int := if x.f0 = 3 then [x.f1, x.f3] else if x.f0 = 4 then [x.f1] else if x.f0 = 5 then [x.f2, x.f3] else [x.f1, x.f2, x.f3]
theorem nums_f (x : S40) : impl_Fault_numbers.f x.f0 x.f1 x.f2 x.f3 = some (numsF x) := by
  unfold impl_Fault_numbers.f numsF
  split
  · rfl
  · split
    · rfl
    · split <;> rfl
def okN (n : Int) : Prop := 0 ≤ n ∧ n ≤ 2000000
def okF (x : S40) : Prop := (1 ≤ x.f0 ∧ x.f0 ≤ 5) ∧ okN x.f1 ∧ okN x.f2 ∧ okN x.f3
theorem nums_ok {x : S40} (h : okF x) : ∀ n ∈ numsF x, okN n := by
  obtain ⟨_, h1, h2, h3⟩ := h
  intro n hn
  unfold numsF at hn
  split at hn
  · simp at hn; rcases hn with rfl | rfl <;> assumption
  · split at hn
    · simp at hn; subst hn; assumption
    · split at hn
      · simp at hn; rcases hn with rfl | rfl <;> assumption
      · simp at hn; rcases hn with rfl | rfl | rfl <;> assumption
def numL (n : Int) : List UInt8 := 32 :: Lib.itoa n
def lineL (x : S40) : List UInt8 := (wordK x.f0).data.toList ++ ((numsF x).flatMap numL ++ [10])
def textL (l : List (S40)) : List UInt8 := l.flatMap lineL
theorem rd_getElem (l : List (S40)) (i : Nat) (h : i < l.length) : rd_T40 l (i : Int) = l[i] := by simp [rd_T40, List.getD_eq_getElem?_getD, h]
theorem take_text (l : List (S40)) (i : Nat) (h : i < l.length) : textL (l.take (i + 1)) = textL (l.take i) ++ lineL (rd_T40 l (i : Int)) := by
  rw [rd_getElem l i h, List.take_succ_eq_append_getElem h]
  unfold textL
  rw [List.flatMap_append]
  simp only [List.flatMap_cons, List.flatMap_nil, List.append_nil]
theorem take_text_len (l : List (S40)) (i : Nat) : (textL (l.take i)).length ≤ (textL l).length := by
  have e : textL l = textL (l.take i) ++ textL (l.drop i) := by
    unfold textL
    rw [← List.flatMap_append, List.take_append_drop]
  rw [e, List.length_append]
  omega
theorem rdI (l : List Int) (i : Nat) (h : i < l.length) : rd l (i : Int) = l[i] := by simp [rd, List.getD_eq_getElem?_getD, h]
theorem take_nums (l : List Int) (j : Nat) (h : j < l.length) : (l.take (j + 1)).flatMap numL = (l.take j).flatMap numL ++ numL (rd l (j : Int)) := by
  rw [rdI l j h, List.take_succ_eq_append_getElem h, List.flatMap_append]
  simp only [List.flatMap_cons, List.flatMap_nil, List.append_nil]
theorem take_nums_len (l : List Int) (j : Nat) : ((l.take j).flatMap numL).length ≤ (l.flatMap numL).length := by
  have e : l.flatMap numL = (l.take j).flatMap numL ++ (l.drop j).flatMap numL := by rw [← List.flatMap_append, List.take_append_drop]
  rw [e, List.length_append]
  omega
set_option maxHeartbeats 8000000 in
set_option maxRecDepth 100000 in
theorem impl_faultsText.calls (A1 : Option Addr) (c1 : Nat) (l1 : List (S40)) (w : World) (hr1 : Kd.C k40 w A1 l1.length l1) (hc1 : l1.length ≤ c1) (ht : Go.Proofs.YtchpgjhbmeokaaaDoor.Bld.Tab w) (hx : ∀ x ∈ l1, okF x) (hl : l1.length ≤ 1000000) (hlen : (textL l1).length ≤ 100000000) :
    Calls Tryd.prog 19 #[.slice A1 l1.length c1] w fun e w' => e = .returned (.string ⟨(textL l1).toArray⟩) ∧ Below w.heap.size w w' := by
  have hu40 := Tryd.underlying40
  have HR1 := Aside0.mk hr1
  have HC1 := Aside0.mk hc1
  have HT := Aside0.mk ht
  have HX := Aside0.mk hx
  have HLL := Aside0.mk hl
  have HTL := Aside0.mk hlen
  clear hr1 hc1 ht hx hl hlen
  go_enter Tryd.func19, Tryd.ntmps19
  go_upto_region 2 with ((with_reducible refine gate_dst (N := 3) rfl ?_); refine box_event ?hg (N := 3) ?hd (cs := #[.pointer none, .slice none 0 0]) (t := 62) ?hr ?_; (case hd => rfl); (case hg => rfl); (case hr => first | (go_simp; done) | (go_simp; rfl)); intro g3 hg3 w1 hxg3 hbg3; subst hg3; have HS := Aside0.mk (Go.Proofs.YtchpgjhbmeokaaaDoor.Bld.start2 hxg3 hbg3); clear hxg3 hbg3)
  go_wp2
  go_loopg [5, 7, 10] l1.length (fun gg _ _ v10 w' => ∃ i : Nat, v10 = .int .i64 (i : Int) ∧ Aside0 (i ≤ l1.length) ∧ Aside0 (l1.length - i ≤ gg) ∧ Aside0 (Go.Proofs.YtchpgjhbmeokaaaDoor.Bld.St w w' (textL (l1.take i))))
  case atStart => exact ⟨0, rfl, ⟨Nat.zero_le _⟩, ⟨by omega⟩, HS⟩
  case round =>
    clear HS
    obtain ⟨i, rfl, HI, HGG, HS⟩ := hrel
    by_cases c : i < l1.length
    · have c1 : decide ((i : Int) < (l1.length : Int)) = true := decide_eq_true (by omega)
      have c2 : decide (i < l1.length) = true := decide_eq_true c
      have c3 : (i < l1.length) = True := eq_true c
      obtain ⟨ad, e, h0, h1, h2, h3⟩ := at_T40 (Kd.C_below HR1.out HS.out.below) (i : Int) (by omega) (by omega)
      cases e
      simp only [Int.toNat_natCast] at h0 h1 h2 h3
      have hmem : rd_T40 l1 (i : Int) ∈ l1 := by rw [rd_getElem l1 i c]; exact List.getElem_mem c
      have HOK := Aside0.mk (HX.out _ hmem)
      have HNX := Aside0.mk (take_text l1 i c)
      have HLEN := Aside0.mk (show (textL (l1.take i)).length + (lineL (rd_T40 l1 (i : Int))).length ≤ 100000000 by have h := take_text_len l1 (i + 1); rw [HNX.out, List.length_append] at h; have := HTL.out; omega)
      have hwi : wrap64 ((i : Int) + 1) = ((i + 1 : Nat) : Int) := by have := HLL.out; unfold wrap64; omega
      have HWI := Aside0.mk hwi
      have HC := Aside0.mk c
      clear hmem hwi c
      generalize rd_T40 l1 (i : Int) = x at *
      generalize textL (l1.take i) = acc at *
      go_upto_region 5 with ((with_reducible refine gate_dst (N := 5) rfl ?_); refine box_event ?hg (N := 5) ?hd (cs := #[.int .i64 0, .int .i64 0, .int .i64 0, .int .i64 0]) (t := 40) ?hr ?_; (case hd => rfl); (case hg => rfl); (case hr => first | (go_simp; done) | (go_simp; rfl)); intro gx hgx w2 hxgx hbgx; have zg := Aside0.mk hgx; have zx := Aside0.mk hxgx; have zb := Aside0.mk hbgx; have z0 := blk_frozen zx.out 0; have z1 := blk_frozen zx.out 1; have z2 := blk_frozen zx.out 2; have z3 := blk_frozen zx.out 3; have v0 : w2.cell? ⟨gx, 0, none⟩ = some (.int .i64 0) := (blk_cell zx.out 0).trans rfl; have v1 : w2.cell? ⟨gx, 1, none⟩ = some (.int .i64 0) := (blk_cell zx.out 1).trans rfl; have v2 : w2.cell? ⟨gx, 2, none⟩ = some (.int .i64 0) := (blk_cell zx.out 2).trans rfl; have v3 : w2.cell? ⟨gx, 3, none⟩ = some (.int .i64 0) := (blk_cell zx.out 3).trans rfl; clear hgx hxgx hbgx)
      show Code.wp _ _ _ _ (Go.Proofs.YtchpgjhbmeokaaaDoor.Bld.st4 w2 gx (.int .i64 x.f0) (.int .i64 x.f1) (.int .i64 x.f2) (.int .i64 x.f3))
      have HX2 := Aside0.mk (Go.Proofs.YtchpgjhbmeokaaaDoor.Bld.st4_same (c0 := .int .i64 x.f0) (c1 := .int .i64 x.f1) (c2 := .int .i64 x.f2) (c3 := .int .i64 x.f3) zx.out)
      have HS2 := Aside0.mk (show Go.Proofs.YtchpgjhbmeokaaaDoor.Bld.St w (Go.Proofs.YtchpgjhbmeokaaaDoor.Bld.st4 w2 gx (.int .i64 x.f0) (.int .i64 x.f1) (.int .i64 x.f2) (.int .i64 x.f3)) acc from Go.Proofs.YtchpgjhbmeokaaaDoor.Bld.St.next HS.out (Go.Proofs.YtchpgjhbmeokaaaDoor.Bld.st4_below zb.out (by rw [zg.out]; exact Nat.le_refl _)))
      clear v0 v1 v2 v3 z0 z1 z2 z3 zx zb zg h0 h1 h2 h3
      generalize Go.Proofs.YtchpgjhbmeokaaaDoor.Bld.st4 w2 gx (.int .i64 x.f0) (.int .i64 x.f1) (.int .i64 x.f2) (.int .i64 x.f3) = w3 at HX2 HS2 ⊢
      have y0 : w3.cell? ⟨gx, 0, none⟩ = some (.int .i64 x.f0) := (blk_cell HX2.out 0).trans rfl
      have p4 : (0 : Int) ≤ x.f0 := by have := HOK.out.1; omega
      have q4 : x.f0 < 6 := by have := HOK.out.1; omega
      have p4t := eq_true p4
      have q4t := eq_true q4
      go_region_with (first | (go_at_call 34; refine (impl_faultWords.calls _ _ rfl).mono ?_; rintro e w4 ⟨v4, rfl, ho4, hb4⟩; obtain ⟨A4, k4, rfl, hle4, hC4⟩ := Kd.R_reads ho4; obtain ⟨ad4, e4, hw4⟩ := Kd.at_string hC4 x.f0 (by have := HOK.out.1; omega) (by have := HOK.out.1; simp only [List.length_cons, List.length_nil]; omega); cases e4; have HX4 := Aside0.mk (show w4.heap[gx]? = some (.cells #[.int .i64 x.f0, .int .i64 x.f1, .int .i64 x.f2, .int .i64 x.f3] 40 (0, 0)) from blk_below (show w3.drew.heap[gx]? = _ from HX2.out) hb4); have HS4 := Aside0.mk (show Go.Proofs.YtchpgjhbmeokaaaDoor.Bld.St w w4 acc from Go.Proofs.YtchpgjhbmeokaaaDoor.Bld.St.next (Go.Proofs.YtchpgjhbmeokaaaDoor.Bld.St.drew HS2.out) hb4); have y4 : w4.cell? ⟨gx, 0, none⟩ = some (.int .i64 x.f0) := (blk_cell HX4.out 0).trans rfl; have hw4' : w4.cell? (ad4.add x.f0.toNat) = some (.string (wordK x.f0)) := hw4; clear hw4 ho4 hb4 hC4) | (go_at_call 33; refine (Go.Proofs.YtchpgjhbmeokaaaDoor.Bld.write (by first | exact HS4.out | exact Go.Proofs.YtchpgjhbmeokaaaDoor.Bld.St.drew HS4.out | exact Go.Proofs.YtchpgjhbmeokaaaDoor.Bld.St.drewN HS4.out _) (wordK x.f0) (by have := HLEN.out; unfold lineL at this; simp only [List.length_append] at this; simp only [Array.length_toList] at this; have e : (wordK x.f0).size = (wordK x.f0).data.size := rfl; omega)).mono ?_; rintro e w5 ⟨rfl, hs5, hsz5, hk5⟩; have HS5 := Aside0.mk hs5; have HX5 := Aside0.mk (show w5.heap[gx]? = some (.cells #[.int .i64 x.f0, .int .i64 x.f1, .int .i64 x.f2, .int .i64 x.f3] 40 (0, 0)) from (hk5 gx (blk_lt HX4.out) (Go.Proofs.YtchpgjhbmeokaaaDoor.Bld.St.not_bld HS4.out HX4.out (by decide) (by decide))).trans HX4.out); have y5 : w5.cell? ⟨gx, 0, none⟩ = some (.int .i64 x.f0) := (blk_cell HX5.out 0).trans rfl; clear hs5 hsz5 hk5))
      all_goals
        clear p4t q4t
        have y51 : w5.cell? ⟨gx, 1, none⟩ = some (.int .i64 x.f1) := (blk_cell HX5.out 1).trans rfl
        have y52 : w5.cell? ⟨gx, 2, none⟩ = some (.int .i64 x.f2) := (blk_cell HX5.out 2).trans rfl
        have y53 : w5.cell? ⟨gx, 3, none⟩ = some (.int .i64 x.f3) := (blk_cell HX5.out 3).trans rfl
        obtain ⟨ns, hns⟩ : ∃ ns, numsF x = ns := ⟨_, rfl⟩
        have HNS := Aside0.mk (show impl_Fault_numbers.f x.f0 x.f1 x.f2 x.f3 = some ns from by rw [nums_f, hns])
        have HNO := Aside0.mk (show ∀ n ∈ ns, okN n from by rw [← hns]; exact nums_ok HOK.out)
        have HLI := Aside0.mk (show lineL x = (wordK x.f0).data.toList ++ (ns.flatMap numL ++ [10]) from by unfold lineL; rw [hns])
        have HNL := Aside0.mk (show ns.length ≤ 3 from by rw [← hns]; unfold numsF; (repeat' split) <;> simp)
        clear hns
        go_wp2_with (go_at_call 35; refine (impl_Fault_numbers.calls x.f0 x.f1 x.f2 x.f3 ns _ HNS.out).mono ?_; rintro e w6 ⟨v6, rfl, ho6, hb6⟩; have HS6 := Aside0.mk (show Go.Proofs.YtchpgjhbmeokaaaDoor.Bld.St w w6 (acc ++ (wordK x.f0).data.toList) from Go.Proofs.YtchpgjhbmeokaaaDoor.Bld.St.next (by first | exact HS5.out | exact Go.Proofs.YtchpgjhbmeokaaaDoor.Bld.St.drew HS5.out) hb6); have HR6 := Aside0.mk ho6; obtain ⟨A6, k6, e6⟩ := Kd.R_slice ho6; subst e6; clear ho6 hb6)
        go_loopg [7, 23] ns.length (fun gg _ v23 w' => ∃ j : Nat, v23 = .int .i64 (j : Int) ∧ Aside0 (j ≤ ns.length) ∧ Aside0 (ns.length - j ≤ gg) ∧ Aside0 (Go.Proofs.YtchpgjhbmeokaaaDoor.Bld.St w w' (acc ++ (wordK x.f0).data.toList ++ (ns.take j).flatMap numL)) ∧ Aside0 (Kd.R (Kd.int .i64) 2 w' w5.heap.size (fun _ => True) (.slice A6 ns.length k6) ns))
        case atStart => exact ⟨0, rfl, ⟨Nat.zero_le _⟩, ⟨by omega⟩, ⟨by simpa using HS6.out⟩, HR6⟩
        case round =>
          clear HS6 HR6 HS HS2 HS4 HS5 y0 y4 y5 y51 y52 y53
          obtain ⟨j, rfl, HJ, HGJ, HS7, HR7⟩ := hrel
          by_cases c : j < ns.length
          · have c1 : decide ((j : Int) < (ns.length : Int)) = true := decide_eq_true (by omega)
            have c2 : decide (j < ns.length) = true := decide_eq_true c
            have c3 : (j < ns.length) = True := eq_true c
            obtain ⟨A7, k7, e7, hle7, hC7⟩ := Kd.R_reads HR7.out
            injection e7 with e7a e7b e7c
            subst e7a
            obtain ⟨ad7, e7, hx7⟩ := Kd.at_int hC7 (j : Int) (by omega) (by omega)
            cases e7
            simp only [Int.toNat_natCast] at hx7
            have hmem : rd ns (j : Int) ∈ ns := by rw [rdI ns j c]; exact List.getElem_mem c
            have HN7 := Aside0.mk (HNO.out _ hmem)
            have HTK := Aside0.mk (take_nums ns j c)
            have HLN := Aside0.mk (show (acc ++ (wordK x.f0).data.toList ++ (ns.take j).flatMap numL).length + (numL (rd ns (j : Int))).length ≤ 100000000 by
              have h := take_nums_len ns (j + 1); rw [HTK.out, List.length_append] at h; have h2 := HLEN.out; rw [HLI.out] at h2; simp only [List.length_append] at h2 ⊢; omega)
            have hwj : wrap64 ((j : Int) + 1) = ((j + 1 : Nat) : Int) := by have := HNL.out; unfold wrap64; omega
            have HWJ := Aside0.mk hwj
            have HCJ := Aside0.mk c
            clear hmem hwj c hC7 hle7 e7b e7c
            generalize rd ns (j : Int) = nv at *
            obtain ⟨sv, hsv⟩ : ∃ sv : ByteArray, sv = ⟨(Lib.itoa nv).toArray⟩ := ⟨_, rfl⟩
            have HSV := Aside0.mk hsv
            have hsz : 1 + sv.size ≤ 9223372036854775807 := by
              have h := HLN.out
              have e : sv.size = (Lib.itoa nv).length := by rw [hsv]; simp [ByteArray.size]
              unfold numL at h
              rw [List.length_cons] at h
              omega
            have HE32 : Aside0 ((acc ++ (wordK x.f0).data.toList ++ (ns.take j).flatMap numL).length + ((⟨#[32]⟩ : ByteArray) ++ sv).size ≤ 140737488355328) := ⟨by
              have h := HLN.out
              have e : sv.size = (Lib.itoa nv).length := by rw [hsv]; simp [ByteArray.size]
              have e2 : ((⟨#[32]⟩ : ByteArray) ++ sv).size = 1 + sv.size := by rw [ByteArray.size_append]; rfl
              unfold numL at h
              rw [List.length_cons] at h
              rw [e2, e]
              unfold numL
              omega⟩
            have hsz1 := eq_true hsz
            have hsz2 : decide (1 + sv.size ≤ 9223372036854775807) = true := decide_eq_true hsz
            have hsz3 : (9223372036854775807 < 1 + sv.size) = False := eq_false (Nat.not_lt.2 hsz)
            clear hsz hsv
            go_wp2_with (first | (go_at_call 36; refine (Go.Proofs.YtchpgjhbmeokaaaDoor.Bld.decimal nv (by have := HN7.out.1; omega) (by have := HN7.out.2; omega) _ (Go.Proofs.YtchpgjhbmeokaaaDoor.Bld.Tab.below HT.out (by first | exact HS7.out.below | exact (Go.Proofs.YtchpgjhbmeokaaaDoor.Bld.St.drew HS7.out).below))).mono ?_; rintro e w8 ⟨rfl, hb8⟩; have HS8 := Aside0.mk (Go.Proofs.YtchpgjhbmeokaaaDoor.Bld.St.next HS7.out hb8); have HR8 := Aside0.mk (Kd.R_below HR7.out hb8); clear hb8; rw [← HSV.out]) | (go_at_call 33; refine (Go.Proofs.YtchpgjhbmeokaaaDoor.Bld.write HS8.out ((⟨#[32]⟩ : ByteArray) ++ sv) HE32.out).mono ?_; rintro e w9 ⟨rfl, hs9, hz9, hk9⟩; have HS9 := Aside0.mk hs9; have HR9 := Aside0.mk (Kd.R_mono (ok' := fun _ => True) (Kd.R_kept (Kd.R_bound HR8.out) (show Kept w8 w9 (Go.Proofs.YtchpgjhbmeokaaaDoor.Bld.bldB w8 w.heap.size) from ⟨hz9, hk9⟩) (fun k_ hk_ => by obtain ⟨_, _, _, q_, hq_, cells_, hc_⟩ := hk_; exact Go.Proofs.YtchpgjhbmeokaaaDoor.Bld.St.not_bld HS8.out hc_ (by rintro rfl; simp [Kd.int, Kd.scalar] at hq_) (by rintro rfl; simp [Kd.int, Kd.scalar] at hq_))) (fun _ _ => trivial)); clear hs9 hz9 hk9))
            go_roundg (ns.length - (j + 1))
            case measure => have := HCJ.out; have := HGJ.out; omega
            case rel => exact ⟨j + 1, by rw [HWJ.out], ⟨by have := HCJ.out; omega⟩, ⟨Nat.le_refl _⟩, ⟨by rw [HTK.out, ← List.append_assoc]; have h := HS9.out; rw [HSV.out] at h; exact h⟩, HR9⟩
          · obtain rfl : j = ns.length := by have := HJ.out; omega
            have c1 : decide ((ns.length : Int) < (ns.length : Int)) = false := decide_eq_false (by omega)
            have c2 : decide (ns.length < ns.length) = false := decide_eq_false c
            clear c
            go_wp2_with (go_at_call 33; refine (Go.Proofs.YtchpgjhbmeokaaaDoor.Bld.write HS7.out (⟨#[10]⟩ : ByteArray) (by have h := HLEN.out; rw [HLI.out] at h; rw [List.take_length]; simp only [List.length_append] at h ⊢; have e : (⟨#[10]⟩ : ByteArray).size = 1 := rfl; rw [e]; simp only [List.length_cons, List.length_nil] at h; omega)).mono ?_; rintro e w9 ⟨rfl, hs9, hz9, hk9⟩; have HS9 := Aside0.mk hs9; clear hs9 hz9 hk9)
            go_roundg (l1.length - (i + 1))
            case measure => have := HC.out; have := HGG.out; omega
            case rel => exact ⟨i + 1, by rw [HWI.out], ⟨by have := HC.out; omega⟩, ⟨Nat.le_refl _⟩, ⟨by rw [HNX.out, HLI.out]; have h := HS9.out; rw [List.take_length] at h; simpa using h⟩⟩
    · obtain rfl : i = l1.length := by have := HI.out; omega
      have c1 : decide ((l1.length : Int) < (l1.length : Int)) = false := decide_eq_false (by omega)
      have c2 : decide (l1.length < l1.length) = false := decide_eq_false c
      clear c
      go_wp2_with (go_at_call 37; refine (Go.Proofs.YtchpgjhbmeokaaaDoor.Bld.string HS.out).mono ?_; rintro e w9 ⟨rfl, hb9⟩)
      go_ret
      exact ⟨by first | rfl | rw [List.take_length], hb9⟩

-- NOT PRINTED: function 57 (bytealg_IndexByteString)

-- NOT PRINTED: function 51 (stringslite_IndexByte)

-- NOT PRINTED: function 42 (strings_IndexByte)

-- NOT PRINTED: function 41 (strings_Lines_1)

-- NOT PRINTED: function 25 (strings_Lines)

-- NOT PRINTED: function 67 (utf8_RuneCountInString)

-- NOT PRINTED: function 81 (utf8_decodeRuneInStringSlow)

-- NOT PRINTED: function 68 (utf8_DecodeRuneInString)

-- NOT PRINTED: function 58 (strings_explode)

-- NOT PRINTED: function 82 (bytealg_IndexString)

-- NOT PRINTED: function 83 (bytealg_Cutover)

-- NOT PRINTED: function 92 (bytealg_hashStr_string)

-- NOT PRINTED: function 84 (bytealg_IndexRabinKarp_string)

-- NOT PRINTED: function 70 (stringslite_Index)

-- NOT PRINTED: function 60 (strings_Index)

-- NOT PRINTED: function 69 (bytealg_CountString)

-- NOT PRINTED: function 59 (strings_Count)

-- NOT PRINTED: function 52 (strings_genSplit)

/-! ### strings_Split: function 43 (a text of the session's own) -/
def strings_Split.f (a0 a1 : ByteArray) : Option (List ByteArray) := if a0.size < 4294967281 ∧ 1 ≤ a1.size then some (Lib.splitB a1 0 (Lib.countB a0 a1) a0) else none
theorem strings_Split.calls (a0 a1 : ByteArray) (r : List ByteArray) (w : World) (hg : Go.Proofs.YtchpgjhbmeokaaaDoor.Bld.G0 w) (h : strings_Split.f a0 a1 = some r) :
    Calls Tryd.prog 43 #[.string a0, .string a1] w fun e w' => ∃ v0_ : Value, e = .returned (v0_) ∧ Kd.R Kd.string 9 w' w.heap.size (fun _ => True) v0_ r ∧ Below w.heap.size w w' := by
  unfold strings_Split.f at h
  split at h
  · rename_i hc
    obtain rfl := Option.some.inj h
    exact Go.Proofs.YtchpgjhbmeokaaaDoor.Bld.split a0 a1 w hg hc.1 hc.2
  · exact absurd h (by simp)

-- NOT PRINTED: function 85 (strconv_lower)

-- NOT PRINTED: function 86 (strconv_underscoreOK)

-- NOT PRINTED: function 71 (strconv_ParseUint)

-- NOT PRINTED: function 61 (strconv_ParseInt_61)

-- NOT PRINTED: function 87 (stringslite_Clone)

-- NOT PRINTED: function 72 (strconv_syntaxError)

-- NOT PRINTED: function 73 (strconv_rangeError)

-- NOT PRINTED: function 88 (errors_New)

-- NOT PRINTED: function 93 (strconv_Itoa_93)

-- NOT PRINTED: function 89 (strconv_Itoa_89)

-- NOT PRINTED: function 74 (strconv_baseError)

-- NOT PRINTED: function 75 (strconv_bitSizeError)

-- NOT PRINTED: function 62 (strconv_toError)

-- NOT PRINTED: function 53 (strconv_ParseInt_53)

/-! ### impl_readNumbers: function 44 (a text of the session's own) -/
def numW (w : ByteArray) : Option Int := match Lib.parseIntB 64 w.data.toList with
  | .ok v => if Lib.itoa v = w.data.toList then some v else none
  | _ => none
theorem numW_ok {w : ByteArray} {v : Int} (h : Lib.parseIntB 64 w.data.toList = .ok v) : numW w = if Lib.itoa v = w.data.toList then some v else none := by unfold numW; rw [h]
theorem numW_no {w : ByteArray} (h : ∀ v, Lib.parseIntB 64 w.data.toList ≠ .ok v) : numW w = none := by
  unfold numW
  cases hp : Lib.parseIntB 64 w.data.toList with
  | ok v => exact absurd hp (h v)
  | _ => rfl
def numsW (l : List ByteArray) : List Int := l.map (fun w => (numW w).getD 0)
def readN (l : List ByteArray) : List Int × Bool := if l.all (fun w => (numW w).isSome) = true then (numsW l, true) else ([], false)
theorem readN_no (l : List ByteArray) (i : Nat) (h : i < l.length) (hn : numW l[i] = none) : readN l = ([], false) := by
  unfold readN
  rw [if_neg]
  intro ha
  have := List.all_eq_true.1 ha _ (List.getElem_mem h)
  rw [hn] at this
  exact absurd this (by simp)
theorem readN_yes (l : List ByteArray) (h : ∀ j (hj : j < l.length), (numW l[j]).isSome = true) : readN l = (numsW l, true) := by
  unfold readN
  rw [if_pos]
  rw [List.all_eq_true]
  intro x hx
  obtain ⟨j, hj, rfl⟩ := List.getElem_of_mem hx
  exact h j hj
theorem numsW_take (l : List ByteArray) (i : Nat) (h : i < l.length) (v : Int) (hv : numW l[i] = some v) : numsW (l.take (i + 1)) = numsW (l.take i) ++ [v] := by
  unfold numsW
  rw [List.take_succ_eq_append_getElem h, List.map_append]
  simp [hv]
theorem rdW (l : List ByteArray) (i : Nat) (h : i < l.length) : rdOf ByteArray.empty l (i : Int) = l[i] := by simp [rdOf, List.getD_eq_getElem?_getD, h]
theorem txt_ne {a : List UInt8} {w : ByteArray} : (⟨a.toArray⟩ : ByteArray).toList = w.toList ↔ a = w.data.toList := by
  rw [ByteArray.toList_eq, ByteArray.toList_eq]
def impl_readNumbers.f (l0 : List ByteArray) : Option (List Int × Bool) := if l0.length ≤ 1000000000 ∧ ∀ x ∈ l0, x.size ≤ 1000000000 then some (readN l0) else none
set_option maxHeartbeats 8000000 in
set_option maxRecDepth 100000 in
theorem impl_readNumbers.calls (A0 : Option Addr) (c0 : Nat) (l0 : List ByteArray) (r1 : List Int) (r2 : Bool) (w : World) (hr0 : Kd.C Kd.string w A0 l0.length l0) (hc0 : l0.length ≤ c0) (hg : Go.Proofs.YtchpgjhbmeokaaaDoor.Bld.G0 w) (h : impl_readNumbers.f l0 = some (r1, r2)) :
    Calls Tryd.prog 44 #[.slice A0 l0.length c0] w fun e w' => ∃ v0_ : Value, e = .returned (.tuple #[v0_, .bool r2]) ∧ Kd.R (Kd.int .i64) 2 w' w.heap.size (fun _ => True) v0_ r1 ∧ Below w.heap.size w w' := by
  have hu64 := Tryd.underlying64
  unfold impl_readNumbers.f at h
  split at h
  case isFalse => exact absurd h (by simp)
  case isTrue hcond =>
  have h := Option.some.inj h
  have HR := Aside0.mk hr0
  have HC := Aside0.mk hc0
  have HG := Aside0.mk hg
  have HL := Aside0.mk hcond.1
  have HS := Aside0.mk hcond.2
  have HE := Aside0.mk h
  clear hr0 hc0 hg hcond h
  go_enter Tryd.func44, Tryd.ntmps44
  go_wp2
  go_loopg [4, 6, 7, 8, 11] l0.length (fun gg v4 _ _ _ v11 w' => ∃ i : Nat, v11 = .int .i64 (i : Int) ∧ Aside0 (i ≤ l0.length) ∧ Aside0 (l0.length - i ≤ gg) ∧ Aside0 (∀ j (hj : j < l0.length), j < i → (numW l0[j]).isSome = true) ∧ Aside0 (Kd.R (Kd.int .i64) 2 w' w.heap.size (fun _ => True) v4 (numsW (l0.take i))) ∧ Aside0 (Below w.heap.size w w'))
  case atStart => exact ⟨0, rfl, ⟨Nat.zero_le _⟩, ⟨by omega⟩, ⟨fun j hj h => absurd h (Nat.not_lt_zero _)⟩, ⟨Kd.R_nil _ _ _ _ _⟩, ⟨Below.refl _ _⟩⟩
  case round =>
    obtain ⟨i, rfl, HI, HGG, HA, HO, HB⟩ := hrel
    by_cases c : i < l0.length
    · have c1 : decide ((i : Int) < (l0.length : Int)) = true := decide_eq_true (by omega)
      have c2 : decide (i < l0.length) = true := decide_eq_true c
      have c3 : (i < l0.length) = True := eq_true c
      obtain ⟨ad, e, hx0⟩ := Kd.at_string (Kd.C_below HR.out HB.out) (i : Int) (by omega) (by omega)
      cases e
      simp only [Int.toNat_natCast] at hx0
      rw [rdW l0 i c] at hx0
      have HSZ := Aside0.mk (HS.out _ (List.getElem_mem c))
      have HNO := Aside0.mk (readN_no l0 i c)
      have HTK := Aside0.mk (numsW_take l0 i c)
      have HNX := Aside0.mk (show (numW l0[i]).isSome = true → ∀ j (hj : j < l0.length), j < i + 1 → (numW l0[j]).isSome = true from fun h j hj hlt => by
        rcases Nat.lt_succ_iff_lt_or_eq.1 hlt with h2 | rfl
        · exact HA.out j hj h2
        · exact h)
      have HC1 := Aside0.mk c
      have hwi : wrap64 ((i : Int) + 1) = ((i + 1 : Nat) : Int) := by have := HL.out; unfold wrap64; omega
      have HWI := Aside0.mk hwi
      clear hwi
      generalize l0[i] = wv at *
      clear c
      go_upto_region 6 with (go_at_call 53; refine (Go.Proofs.YtchpgjhbmeokaaaDoor.Bld.parse wv _ (by first | exact (Go.Proofs.YtchpgjhbmeokaaaDoor.Bld.G0.below HG.out HB.out)) HSZ.out).mono ?_; rintro e w8 ⟨nv, ev, rfl, hcase, hb8⟩)
      have HB8 := Aside0.mk (below_step HB.out hb8)
      have HO8 := Aside0.mk (Kd.R_below HO.out hb8)
      clear hb8
      rcases hcase with ⟨v, hp, rfl, rfl⟩ | ⟨hp, N, rfl⟩
      · have hbd := Lib.parseIntB_bounds hp
        have hnum := numW_ok hp
        obtain ⟨sv, hsv⟩ : ∃ sv : ByteArray, sv = ⟨(Lib.itoa nv).toArray⟩ := ⟨_, rfl⟩
        have HSV := Aside0.mk hsv
        have e63 : ((2 : Nat) ^ (64 - 1)) = 9223372036854775808 := by decide
        rw [e63] at hbd
        have HBD := Aside0.mk (show -9223372036854775808 ≤ nv ∧ nv ≤ 9223372036854775807 from ⟨by omega, by omega⟩)
        have hiff : sv.toList = wv.toList ↔ Lib.itoa nv = wv.data.toList := by rw [hsv]; exact txt_ne
        clear hbd hp hsv e63
        by_cases q : Lib.itoa nv = wv.data.toList
        · rw [if_pos q] at hnum
          have HNU := Aside0.mk hnum
          have q1 : (sv.toList == wv.toList) = true := beq_iff_eq.mpr (hiff.2 q)
          have q2 : (sv.toList != wv.toList) = false := bne_eq_false_iff_eq.mpr (hiff.2 q)
          clear hnum hiff q
          go_wp2_with (first | (go_at_call 36; refine (Go.Proofs.YtchpgjhbmeokaaaDoor.Bld.decimal nv HBD.out.1 HBD.out.2 _ ((Go.Proofs.YtchpgjhbmeokaaaDoor.Bld.G0.below HG.out HB8.out).tab)).mono ?_; rintro e w9 ⟨rfl, hb9⟩; rw [← HSV.out]; have HB9 := Aside0.mk (below_step HB8.out hb9); have HO9 := Aside0.mk (Kd.R_below HO8.out hb9); clear hb9) | (at_builtin; refine Kd.R_append (Kd.int .i64) (w0 := w) w.heap.size rfl (.tmp 28) (.tmp 30) 68 2 (.int .i64 0) 8 rfl Tryd.underlying68 (by kernel_rfl) rfl (by decide) (by omega) u4 (numsW (l0.take i)) nv [.int .i64 nv] (fun _ => True) (fun _ => False) rfl (by first | (go_simp; done) | (go_simp; rfl)) ?aP (fun _ hk => hk.elim) ?aF ?aO ?aB ?aS ?aL ?_; (case aP => exact rfl); (case aF => exact fun _ _ => trivial); (case aO => exact HO9.out); (case aB => exact HB9.out); (case aS => exact below_size HB9.out); (case aL => unfold numsW; rw [List.length_map, List.length_take]; have := HL.out; omega); intro v7 w7 ho7 hb7 hg7 hat7))
          go_roundg (l0.length - (i + 1))
          case measure => have := HC1.out; have := HGG.out; omega
          case rel => exact ⟨i + 1, by rw [HWI.out], ⟨by have := HC1.out; omega⟩, ⟨Nat.le_refl _⟩, ⟨HNX.out (by rw [HNU.out]; rfl)⟩, ⟨by rw [HTK.out nv HNU.out]; exact ho7⟩, ⟨hb7⟩⟩
        · rw [if_neg q] at hnum
          have q1 : (sv.toList == wv.toList) = false := beq_eq_false_iff_ne.mpr (fun h => q (hiff.1 h))
          have q2 : (sv.toList != wv.toList) = true := bne_iff_ne.mpr (fun h => q (hiff.1 h))
          have he := HE.out
          rw [HNO.out hnum] at he
          injection he with he1 he2
          subst he1 he2
          clear hnum hiff q
          go_wp2_with (go_at_call 36; refine (Go.Proofs.YtchpgjhbmeokaaaDoor.Bld.decimal nv HBD.out.1 HBD.out.2 _ ((Go.Proofs.YtchpgjhbmeokaaaDoor.Bld.G0.below HG.out HB8.out).tab)).mono ?_; rintro e w9 ⟨rfl, hb9⟩; rw [← HSV.out]; have HB9 := Aside0.mk (below_step HB8.out hb9); clear hb9)
          go_ret2
          exact ⟨_, rfl, Kd.R_nil _ _ _ _ _, HB9.out⟩
      · have he := HE.out
        rw [HNO.out (numW_no hp)] at he
        injection he with he1 he2
        subst he1 he2
        clear hp
        go_wp2
        go_ret2
        exact ⟨_, rfl, Kd.R_nil _ _ _ _ _, HB8.out⟩
    · obtain rfl : i = l0.length := by have := HI.out; omega
      have c1 : decide ((l0.length : Int) < (l0.length : Int)) = false := decide_eq_false (by omega)
      have c2 : decide (l0.length < l0.length) = false := decide_eq_false c
      clear c
      have he := HE.out
      rw [readN_yes l0 (fun j hj => HA.out j hj hj)] at he
      injection he with he1 he2
      subst he1 he2
      go_wp2
      go_ret2
      exact ⟨_, rfl, by have h := HO.out; rw [List.take_length] at h; exact h, HB.out⟩

/-! ### slices_Index_string_string: function 45 -/
def slices_Index_string_string.l0 : Nat → List ByteArray → ByteArray → Int → Int → Option (Int)
  | 0, _, _, _, _ => none
  | k + 1, x0, x1, x7, x8 => if x8 < x7 then (if 0 ≤ x8 then (if x8 < (x0.length : Int) then (if x1.toList = (rdOf ByteArray.empty x0 x8).toList then (some x8) else (slices_Index_string_string.l0 k x0 x1 x7 (wrap64 (x8 + 1)))) else (none)) else (none)) else (some (-1))
def slices_Index_string_string.f (k : Nat) (l0 : List ByteArray) (a1 : ByteArray) : Option (Int) := slices_Index_string_string.l0 k l0 a1 (l0.length : Int) 0
theorem slices_Index_string_string.mono_l : ∀ k, (∀ y0 y1 y2 y3, LeO (slices_Index_string_string.l0 k y0 y1 y2 y3) (slices_Index_string_string.l0 (k + 1) y0 y1 y2 y3))
  | 0 => fun _ _ _ _ r h => by simp [slices_Index_string_string.l0] at h
  | k + 1 => by
    have ih0 := slices_Index_string_string.mono_l k
    · intro y0 y1 y2 y3
      unfold slices_Index_string_string.l0
      repeat' first
      | (with_reducible exact ih0 _ _ _ _)
      | (with_reducible exact LeO.refl _)
      | (with_reducible exact LeO.none _)
      | (with_reducible refine LeO.ite ?_ ?_)
      | (with_reducible refine LeO.bind ?_ (fun _ => ?_))
      | exact ih0 _ _ _ _
      | exact LeO.none _
      | refine LeO.ite ?_ ?_
      | refine LeO.bind ?_ (fun _ => ?_)
theorem slices_Index_string_string.mono : ∀ a0 a1 k, LeO (slices_Index_string_string.f k a0 a1) (slices_Index_string_string.f (k + 1) a0 a1) := by
  intro a0 a1 k
  have ih0 := slices_Index_string_string.mono_l k
  unfold slices_Index_string_string.f
  repeat' first
      | (with_reducible exact ih0 _ _ _ _)
      | (with_reducible exact LeO.refl _)
      | (with_reducible exact LeO.none _)
      | (with_reducible refine LeO.ite ?_ ?_)
      | (with_reducible refine LeO.bind ?_ (fun _ => ?_))
      | exact ih0 _ _ _ _
      | exact LeO.none _
      | refine LeO.ite ?_ ?_
      | refine LeO.bind ?_ (fun _ => ?_)
set_option maxHeartbeats 8000000 in
set_option maxRecDepth 100000 in
theorem slices_Index_string_string.calls (k : Nat) (A0 : Option Addr) (c0 : Nat) (l0 : List ByteArray) (a1 : ByteArray) (r : Int) (w : World) (hr0 : Kd.C Kd.string w A0 l0.length l0) (hc0 : l0.length ≤ c0) (h : slices_Index_string_string.f k l0 a1 = some r) :
    Calls Tryd.prog 45 #[.slice A0 l0.length c0, .string a1] w fun e w' => e = .returned (.int .i64 r) ∧ Drawn0 w w' := by
  have HR0 := Aside0.mk hr0
  have HC0 := Aside0.mk hc0
  clear hr0 hc0
  have H : (slices_Index_string_string.l0 k l0 a1 (l0.length : Int) 0) = some r := h
  clear h
  have H' := Aside0.mk H
  clear H
  go_enter Tryd.func45, Tryd.ntmps45
  go_wp2
  go_loopg [8] k (fun kq v8 w' => ∃ (x8_1 : Int), v8 = .int .i64 x8_1 ∧ Aside0 (slices_Index_string_string.l0 kq l0 a1 (l0.length : Int) x8_1 = some r) ∧ Aside0 (kq ≤ k) ∧ Drawn0 w w')
  case atStart => exact ⟨(0), (by first | rfl | (simp; done) | (simp [*]; done)), H', ⟨Nat.le_refl _⟩, by repeat (first | exact Drawn0.refl _ | apply Drawn0.step)⟩
  case round =>
    clear H'
    try clear p2
    obtain ⟨x8_1, rfl, HA, HK1, ⟨m1, rfl⟩⟩ := hrel
    cases gk with
    | zero => exact absurd HA.out (by simp [slices_Index_string_string.l0])
    | succ k1 =>
      have H := HA.out
      clear HA
      simp only [slices_Index_string_string.l0] at H
      by_cases c3 : x8_1 < (l0.length : Int)
      · rw [if_pos c3] at H
        have c3b0 : decide (x8_1 < (l0.length : Int)) = true := decide_eq_true c3
        clear c3
        by_cases c4 : 0 ≤ x8_1
        · rw [if_pos c4] at H
          have c4b0 : decide (0 ≤ x8_1) = true := decide_eq_true c4
          clear c4
          by_cases c5 : x8_1 < (l0.length : Int)
          · rw [if_pos c5] at H
            have c5b0 : decide (x8_1 < (l0.length : Int)) = true := decide_eq_true c5
            clear c5
            by_cases c6 : a1.toList = (rdOf ByteArray.empty l0 x8_1).toList
            · rw [if_pos c6] at H
              have c6b0 : (a1.toList == (rdOf ByteArray.empty l0 x8_1).toList) = true := beq_iff_eq.mpr c6
              have c6b1 : (a1.toList != (rdOf ByteArray.empty l0 x8_1).toList) = false := bne_eq_false_iff_eq.mpr c6
              clear c6
              obtain rfl := Option.some.inj H
              have p252 : 0 ≤ (x8_1 : Int) := of_decide_eq_true (by first | (with_reducible assumption) | assumption)
              have q252 : x8_1 < (l0.length : Int) := of_decide_eq_true (by first | (with_reducible assumption) | assumption)
              obtain ⟨ad252, e252, hx252_0⟩ := Kd.at_string HR0.out x8_1 p252 q252
              cases e252
              replace p252 := eq_true p252
              replace q252 := eq_true q252
              go_wp2
              go_ret
              exact ⟨by first | rfl | (simp; done) | (simp [*]; done), by repeat (first | exact Drawn0.refl _ | apply Drawn0.step)⟩
            · rw [if_neg c6] at H
              have c6b0 : (a1.toList == (rdOf ByteArray.empty l0 x8_1).toList) = false := beq_eq_false_iff_ne.mpr c6
              have c6b1 : (a1.toList != (rdOf ByteArray.empty l0 x8_1).toList) = true := bne_iff_ne.mpr c6
              have H' := Aside0.mk H
              clear H
              have p252 : 0 ≤ (x8_1 : Int) := of_decide_eq_true (by first | (with_reducible assumption) | assumption)
              have q252 : x8_1 < (l0.length : Int) := of_decide_eq_true (by first | (with_reducible assumption) | assumption)
              obtain ⟨ad252, e252, hx252_0⟩ := Kd.at_string HR0.out x8_1 p252 q252
              cases e252
              replace p252 := eq_true p252
              replace q252 := eq_true q252
              go_wp2
              go_roundg k1
              case measure => have := HK1.out; omega
              case rel => exact ⟨(wrap64 (x8_1 + 1)), (by first | rfl | (simp; done) | (simp [*]; done)), H', ⟨by have := HK1.out; omega⟩, by repeat (first | exact Drawn0.refl _ | apply Drawn0.step)⟩
          · rw [if_neg c5] at H
            exact absurd H (by simp)
        · rw [if_neg c4] at H
          exact absurd H (by simp)
      · rw [if_neg c3] at H
        have c3b0 : decide (x8_1 < (l0.length : Int)) = false := decide_eq_false c3
        clear c3
        obtain rfl := Option.some.inj H
        go_wp2
        go_ret
        exact ⟨by first | rfl | (simp; done) | (simp [*]; done), by repeat (first | exact Drawn0.refl _ | apply Drawn0.step)⟩

end Go.Proofs.YtchpgjhbmeokaaaDoor.QFnExactParseFaults
