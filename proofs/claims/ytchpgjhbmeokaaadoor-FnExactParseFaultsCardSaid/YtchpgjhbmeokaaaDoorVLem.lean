/- Small lemmas on whole numbers, bits, lists and strings, for the pure statements of this seat. No condition. -/
import Derived.Test.YtchpgjhbmeokaaaDoorVMore
import Derived.Laws.BitsAllLaws
import Derived.Laws.Bits128
import Derived.OpenShut
namespace Go.Proofs.YtchpgjhbmeokaaaDoor.Lem
open Go.RowKit Go.Proofs.YtchpgjhbmeokaaaDoorW.PrintWords Go.Proofs.YtchpgjhbmeokaaaDoorW.PrintLast Go.Proofs.YtchpgjhbmeokaaaDoorW.PrintMore

theorem wf_i64 {n : Int} (h0 : -9223372036854775808 ≤ n) (h1 : n ≤ 9223372036854775807) : (Lit.int .i64 n).wf = true := by
  have a : IntKind.i64.min = -9223372036854775808 := by decide
  have b : IntKind.i64.max = 9223372036854775807 := by decide
  simp only [Lit.wf, a, b]
  simp [h0, h1]
theorem w64 {n : Int} (h0 : -9223372036854775808 ≤ n) (h1 : n ≤ 9223372036854775807) : wrap64 n = n := by unfold wrap64; omega
theorem u64 {n : Int} (h0 : 0 ≤ n) (h1 : n ≤ 18446744073709551615) : IntKind.u64.wrap n = n := by rw [IntKind.wrap_u64]; omega
theorem i64_id (m : Int) (h0 : 0 ≤ m) (h1 : m < 2 ^ 63) : IntKind.i64.wrap m = m := by rw [IntKind.wrap_i64]; omega
theorem and1 (x : Int) (h0 : 0 ≤ x) (h1 : x < 9223372036854775808) : Go.bits .and .i64 x 1 = x % 2 := by
  have h := bits_mask .i64 63 (by decide) i64_id 1 (by decide) x h0 (by omega)
  simpa using h
theorem or128_u8 (y : Int) (h0 : 0 ≤ y) (h1 : y < 256) : Go.bits .or .u8 y 128 = y % 128 + 128 := by
  obtain ⟨n, rfl⟩ := Int.eq_ofNat_of_zero_le h0
  have hn : n < 256 := by omega
  have e := u8_or_nat n 128 hn (by decide)
  have e2 : ∀ m : Fin 256, (m.val ||| 128) = m.val % 128 + 128 := by decide +kernel
  have e3 := e2 ⟨n, hn⟩
  simp only at e3
  have e4 : Go.bits .or .u8 (n : Int) 128 = ((n ||| 128 : Nat) : Int) := e
  rw [e4, e3]
  omega
theorem or128_i64 (y : Int) (h0 : 0 ≤ y) (h1 : y < 128) : Go.bits .or .i64 y 128 = y + 128 := by
  obtain ⟨n, rfl⟩ := Int.eq_ofNat_of_zero_le h0
  have hn : n < 128 := by omega
  have e := (bits_nat .i64 8 (by decide) (fun m h0 h1 => i64_id m h0 (by omega)) n 128 (by omega) (by decide)).2
  have e2 : ∀ m : Fin 128, (m.val ||| 128) = m.val + 128 := by decide +kernel
  have e3 := e2 ⟨n, hn⟩
  simp only at e3
  have e4 : Go.bits .or .i64 (n : Int) 128 = ((n ||| 128 : Nat) : Int) := e
  rw [e4, e3]
  omega
theorem byte_same (x : Int) : (Go.bits .or .i64 (Go.bits .and .i64 x 127) 128) % 256 = Go.bits .or .u8 (x % 256) 128 := by
  rw [i64_and127, or128_i64 _ (by omega) (by omega), or128_u8 _ (by omega) (by omega)]
  omega
theorem xor_i64 (a b : Nat) (ha : a < 65536) (hb : b < 65536) : Go.bits .xor .i64 (a : Int) (b : Int) = ((a ^^^ b : Nat) : Int) := by
  have ha' : a % 2 ^ IntKind.i64.bits = a := Nat.mod_eq_of_lt (Nat.lt_of_lt_of_le ha (by decide))
  have hb' : b % 2 ^ IntKind.i64.bits = b := Nat.mod_eq_of_lt (Nat.lt_of_lt_of_le hb (by decide))
  have hx : a ^^^ b < 2 ^ 16 := Nat.xor_lt_two_pow ha hb
  simp only [Go.bits, BitVec.ofInt_natCast, BitVec.toNat_xor, BitVec.toNat_ofNat, ha', hb']
  rw [IntKind.wrap_i64]
  omega
/-- What is joined below a higher part: the sum, in either order. -/
theorem or_low (k : IntKind) (j : Nat) (hj : j ≤ k.bits) (hk : ∀ n : Int, 0 ≤ n → n < 2 ^ j → k.wrap n = n) (i : Nat) (x y : Int)
    (hx0 : 0 ≤ x) (hx : x < 2 ^ i) (hx1 : x < 2 ^ j) (hy0 : 0 ≤ y) (hy : y % 2 ^ i = 0) (hy1 : y < 2 ^ j) : Go.bits .or k x y = x + y := by
  have h := bits_join k j hj hk i y x hy0 hy hy1 hx0 hx hx1
  obtain ⟨a, rfl⟩ := Int.eq_ofNat_of_zero_le hx0
  obtain ⟨b, rfl⟩ := Int.eq_ofNat_of_zero_le hy0
  have ha : a < 2 ^ j := by exact_mod_cast hx1
  have hb : b < 2 ^ j := by exact_mod_cast hy1
  have e1 := (bits_nat k j hj hk a b ha hb).2
  have e2 := (bits_nat k j hj hk b a hb ha).2
  rw [e1, Nat.or_comm, ← e2, h]
  omega

/-! ### Lists that are filled -/
def tab (f : Nat → Int) (n : Nat) : List Int := (List.range n).map f
theorem tab_length (f : Nat → Int) (n : Nat) : (tab f n).length = n := by simp [tab]
theorem tab_zero (f : Nat → Int) : tab f 0 = [] := rfl
theorem tab_succ (f : Nat → Int) (n : Nat) : tab f (n + 1) = tab f n ++ [f n] := by simp [tab, List.range_succ]
def fill (f : Nat → Int) (n i : Nat) : List Int := tab f i ++ List.replicate (n - i) 0
theorem fill_length (f : Nat → Int) (n i : Nat) (h : i ≤ n) : (fill f n i).length = n := by simp [fill, tab_length]; omega
theorem fill_zero (f : Nat → Int) (n : Nat) : fill f n 0 = List.replicate n 0 := by simp [fill, tab_zero]
theorem fill_all (f : Nat → Int) (n : Nat) : fill f n n = tab f n := by simp [fill]
theorem fill_set (f : Nat → Int) (n i : Nat) (h : i < n) : (fill f n i).set i (f i) = fill f n (i + 1) := by
  unfold fill
  rw [List.set_append_right _ _ (by rw [tab_length]; exact Nat.le_refl _), tab_length, Nat.sub_self]
  obtain ⟨m, hm⟩ : ∃ m, n - i = m + 1 := ⟨n - i - 1, by omega⟩
  have hm' : n - (i + 1) = m := by omega
  rw [hm, hm', tab_succ, List.replicate_succ]
  simp
theorem tab_getD (f : Nat → Int) (n j : Nat) (h : j < n) : (tab f n).getD j 0 = f j := by simp [tab, List.getD_eq_getElem?_getD, h]
theorem bt_str (f : Nat → Int) (n : Nat) (i : Int) (h0 : 0 ≤ i) (h : i < n) (hf : 0 ≤ f i.toNat ∧ f i.toNat < 256) : bt (strOfNums (tab f n)) i = f i.toNat := by
  have hs : (strOfNums (tab f n)).size = n := by rw [strOfNums_size, tab_length]
  have hi : i.toNat < n := by omega
  have hd : i.toNat < (strOfNums (tab f n)).data.toList.length := by rw [strOfNums_data]; simpa [tab_length] using hi
  unfold bt
  rw [dif_pos (by rw [hs]; exact hi)]
  have e : (strOfNums (tab f n)).data.toList[i.toNat]'hd = UInt8.ofNat (f i.toNat).toNat := by
    have e2 : (strOfNums (tab f n)).data.toList[i.toNat]? = some (UInt8.ofNat (f i.toNat).toNat) := by
      rw [strOfNums_data]
      simp [tab, hi]
    rw [List.getElem?_eq_getElem hd] at e2
    exact Option.some.inj e2
  have e3 : ((strOfNums (tab f n))[i.toNat]'(by rw [hs]; exact hi)) = UInt8.ofNat (f i.toNat).toNat := e
  rw [e3]
  have e4 : (UInt8.ofNat (f i.toNat).toNat).toNat = (f i.toNat).toNat % 256 := by simp
  rw [e4]
  omega
/-! ### The exclusive or of two bytes -/
theorem xor_u8 (x y : Int) (hx : 0 ≤ x ∧ x ≤ 255) (hy : 0 ≤ y ∧ y ≤ 255) : ∃ a b : Nat, x = a ∧ y = b ∧ a < 256 ∧ b < 256 ∧ Go.bits .xor .u8 x y = ((a ^^^ b : Nat) : Int) ∧ a ^^^ b < 256 := by
  obtain ⟨a, rfl⟩ := Int.eq_ofNat_of_zero_le hx.1
  obtain ⟨b, rfl⟩ := Int.eq_ofNat_of_zero_le hy.1
  have ha : a < 256 := by omega
  have hb : b < 256 := by omega
  exact ⟨a, b, rfl, rfl, ha, hb, u8_xor_nat a b ha hb, Nat.xor_lt_two_pow (n := 8) ha hb⟩
theorem xor_range (x y : Int) (hx : 0 ≤ x ∧ x ≤ 255) (hy : 0 ≤ y ∧ y ≤ 255) : 0 ≤ Go.bits .xor .u8 x y ∧ Go.bits .xor .u8 x y ≤ 255 := by
  obtain ⟨a, b, _, _, _, _, e, h⟩ := xor_u8 x y hx hy
  rw [e]
  omega
theorem xor_assoc (x y z : Int) (hx : 0 ≤ x ∧ x ≤ 255) (hy : 0 ≤ y ∧ y ≤ 255) (hz : 0 ≤ z ∧ z ≤ 255) : Go.bits .xor .u8 (Go.bits .xor .u8 x y) z = Go.bits .xor .u8 x (Go.bits .xor .u8 y z) := by
  obtain ⟨a, rfl⟩ := Int.eq_ofNat_of_zero_le hx.1
  obtain ⟨b, rfl⟩ := Int.eq_ofNat_of_zero_le hy.1
  obtain ⟨c, rfl⟩ := Int.eq_ofNat_of_zero_le hz.1
  have ha : a < 256 := by omega
  have hb : b < 256 := by omega
  have hc : c < 256 := by omega
  rw [u8_xor_nat a b ha hb, u8_xor_nat b c hb hc, u8_xor_nat _ c (Nat.xor_lt_two_pow (n := 8) ha hb) hc, u8_xor_nat a _ ha (Nat.xor_lt_two_pow (n := 8) hb hc), Nat.xor_assoc]
theorem xor_comm (x y : Int) (hx : 0 ≤ x ∧ x ≤ 255) (hy : 0 ≤ y ∧ y ≤ 255) : Go.bits .xor .u8 x y = Go.bits .xor .u8 y x := by
  obtain ⟨a, rfl⟩ := Int.eq_ofNat_of_zero_le hx.1
  obtain ⟨b, rfl⟩ := Int.eq_ofNat_of_zero_le hy.1
  have ha : a < 256 := by omega
  have hb : b < 256 := by omega
  rw [u8_xor_nat a b ha hb, u8_xor_nat b a hb ha, Nat.xor_comm]
theorem xor_zero (x : Int) (hx : 0 ≤ x ∧ x ≤ 255) : Go.bits .xor .u8 0 x = x := by
  obtain ⟨a, rfl⟩ := Int.eq_ofNat_of_zero_le hx.1
  have ha : a < 256 := by omega
  have h := u8_xor_nat 0 a (by decide) ha
  have h2 : Go.bits .xor .u8 0 (a : Int) = ((0 ^^^ a : Nat) : Int) := h
  rw [h2, Nat.zero_xor]
theorem xor_self (x : Int) (hx : 0 ≤ x ∧ x ≤ 255) : Go.bits .xor .u8 x x = 0 := by
  obtain ⟨a, rfl⟩ := Int.eq_ofNat_of_zero_le hx.1
  have ha : a < 256 := by omega
  rw [u8_xor_nat a a ha ha, Nat.xor_self]
  rfl
/-- Two strings, byte by byte. -/
def xf (a b : ByteArray) (j : Nat) : Int := Go.bits .xor .u8 (bt a (j : Int)) (bt b (j : Int))
def xs (a b : ByteArray) : ByteArray := strOfNums (tab (xf a b) a.size)
theorem xs_size (a b : ByteArray) : (xs a b).size = a.size := by rw [xs, strOfNums_size, tab_length]
theorem xf_range (a b : ByteArray) (j : Nat) : 0 ≤ xf a b j ∧ xf a b j ≤ 255 := xor_range _ _ (bt_range _ _) (bt_range _ _)
theorem xs_bt (a b : ByteArray) (j : Nat) (h : j < a.size) : bt (xs a b) (j : Int) = xf a b j := by
  have hr := xf_range a b j
  have e := bt_str (xf a b) a.size (j : Int) (by omega) (by omega) (by simp; omega)
  have z : ((j : Int)).toNat = j := by omega
  rw [z] at e
  exact e
theorem tab_congr {f g : Nat → Int} {n : Nat} (h : ∀ j, j < n → f j = g j) : tab f n = tab g n := by
  unfold tab
  apply List.map_congr_left
  intro j hj
  exact h j (List.mem_range.mp hj)
theorem bt_zeros (n : Nat) (i : Int) : bt (strOfNums (List.replicate n 0)) i = 0 := by
  unfold bt
  split
  · rename_i h
    have hn : i.toNat < n := by rw [strOfNums_size] at h; simpa using h
    have hd : i.toNat < (strOfNums (List.replicate n 0)).data.toList.length := by rw [strOfNums_data]; simpa using hn
    have e2 : (strOfNums (List.replicate n 0)).data.toList[i.toNat]? = some (UInt8.ofNat 0) := by
      rw [strOfNums_data]
      simp [hn]
    rw [List.getElem?_eq_getElem hd] at e2
    have e3 : ((strOfNums (List.replicate n 0))[i.toNat]'h) = UInt8.ofNat 0 := Option.some.inj e2
    rw [e3]
    rfl
  · rfl
theorem bt_ext {a b : ByteArray} (hs : a.size = b.size) (h : ∀ j : Nat, j < a.size → bt a (j : Int) = bt b (j : Int)) : a = b := by
  apply ByteArray.ext
  apply Array.ext
  · exact hs
  · intro i h1 h2
    have e := h i h1
    unfold bt at e
    have t : ((i : Int)).toNat = i := by omega
    have h1' : ((i : Int)).toNat < a.size := by rw [t]; exact h1
    have h2' : ((i : Int)).toNat < b.size := by rw [t]; exact h2
    rw [dif_pos h1', dif_pos h2'] at e
    have e2 : (a[((i : Int)).toNat]'h1') = (b[((i : Int)).toNat]'h2') := UInt8.toNat.inj (by omega)
    have e3 : a[i]'h1 = b[i]'h2 := by simpa using e2
    exact e3
end Go.Proofs.YtchpgjhbmeokaaaDoor.Lem
