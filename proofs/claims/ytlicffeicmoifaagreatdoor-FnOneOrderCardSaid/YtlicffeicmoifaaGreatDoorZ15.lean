import Derived.Test.YtlicffeicmoifaaGreatDoorZ14
import Derived.Test.YtlicffeicmoifaaGreatDoorZ03
import Derived.Test.YtlicffeicmoifaaGreatDoorZ00
import Derived.Test.YtlicffeicmoifaaGreatDoorZ09
import Derived.Test.YtlicffeicmoifaaGreatDoorZ07
import Derived.Test.YtlicffeicmoifaaGreatDoorZ08
import Derived.Test.YtlicffeicmoifaaGreatDoorZ13
import Derived.Lib.Join
import Derived.Lib.SplitLaws
import Derived.Deep.RegionHeld3
import Derived.Deep.AppendLies
set_option linter.unusedSimpArgs false
namespace Go.Proofs.YtlicffeicmoifaaGreatDoor
open Go.RowKit
set_option linter.unusedVariables false
theorem be8_at (N k : Nat) (hk : k < 8) : (be8 N)[k]? = some (UInt8.ofNat ((N / 2 ^ (56 - 8 * k)) % 256)) := by
 have hcs : k = 0 ∨ k = 1 ∨ k = 2 ∨ k = 3 ∨ k = 4 ∨ k = 5 ∨ k = 6 ∨ k = 7 := by omega
 rcases hcs with rfl | rfl | rfl | rfl | rfl | rfl | rfl | rfl
 all_goals rfl
theorem str_at {s : ByteArray} {l : List UInt8} {b : UInt8} {k : Nat} (hs : s.data.toList = l) (h : k < s.size) (hl : l[k]? = some b) : s[k] = b := by
 have h1 : s.data.toList[k]? = some s[k] := by rw [Array.getElem?_toList]; exact Array.getElem?_eq_getElem h
 rw [hs, hl] at h1
 injection h1 with h1
 exact h1.symm
theorem be8_byte {s : ByteArray} {N k : Nat} (hs : s.data.toList = be8 N) (hk : k < 8) (h : k < s.size) : s[k].toNat = (N / 2 ^ (56 - 8 * k)) % 256 := by
 rw [str_at hs h (be8_at N k hk), UInt8.toNat_ofNat']
 have := Nat.mod_lt (N / 2 ^ (56 - 8 * k)) (show 0 < 256 by decide)
 rw [Nat.mod_eq_of_lt (a := N / 2 ^ (56 - 8 * k) % 256) (by simpa using this)]
theorem or_i64 (a b : Nat) (ha : a < 9223372036854775808) (hb : b < 9223372036854775808) : bits .or .i64 (a : Int) (b : Int) = ((a ||| b : Nat) : Int) := by
 have hx : a ||| b < 2 ^ 63 := Nat.or_lt_two_pow (by omega) (by omega)
 have h1 : (BitVec.ofInt 64 (a : Int)).toNat = a := by
  rw [BitVec.ofInt_natCast, BitVec.toNat_ofNat]; exact Nat.mod_eq_of_lt (by omega)
 have h2 : (BitVec.ofInt 64 (b : Int)).toNat = b := by
  rw [BitVec.ofInt_natCast, BitVec.toNat_ofNat]; exact Nat.mod_eq_of_lt (by omega)
 show IntKind.i64.wrap ((BitVec.ofInt 64 (a : Int) ||| BitVec.ofInt 64 (b : Int)).toNat : Int) = _
 rw [BitVec.toNat_or, h1, h2, IntKind.wrap_i64]
 omega
set_option maxRecDepth 100000 in
theorem or_byte (a b : Nat) (ha : a < 36028797018963968) (hb : b < 256) : bits .or .i64 ((a : Int) * 256) (b : Int) = ((a * 256 + b : Nat) : Int) := by
 have h1 : a * 256 ||| b = a * 256 + b := by
  have := Nat.shiftLeft_add_eq_or_of_lt (i := 8) (b := b) (by simpa using hb) a
  rw [Nat.shiftLeft_eq] at this
  simpa using this.symm
 have h2 := or_i64 (a * 256) b (by omega) (by omega)
 rw [h1] at h2
 push_cast at h2 ⊢
 exact h2
set_option maxRecDepth 100000 in
set_option maxHeartbeats 4000000 in
theorem l02Num_any (s : ByteArray) (N : Nat) (w : World) (hs : s.data.toList = be8 N) (hN : N < 2000000000000000000) :
 Calls Tryz.prog 259 #[.string s] w fun e w' => e = .returned (.int .i64 N) ∧ Below w.heap.size w w' := by
 have hsz : s.size = 8 := by
  have := congrArg List.length hs
  rw [be8_len, Array.length_toList] at this
  exact this
 have HBY : Hid (∀ k (h : k < 8), (s[k]'(by omega)).toNat = (N / 2 ^ (56 - 8 * k)) % 256) := fun k h => be8_byte hs h (by omega)
 clear hs
 go_enter Tryz.func259, Tryz.ntmps259
 go_wp2_with fail
 go_loopw [3, 4] (fun v i wr => ∃ k : Nat, k ≤ 8 ∧ i = .int .i64 k ∧ v = .int .i64 ((N / 2 ^ (64 - 8 * k) : Nat) : Int) ∧ Hid (Below w.heap.size w wr)) (fun _ i _ => 8 - (intOf i).toNat)
 case atStart => exact ⟨0, by omega, rfl, by rw [show N / 2 ^ (64 - 8 * 0) = 0 from by simp only [Nat.mul_zero, Nat.sub_zero, Nat.reducePow]; omega]; rfl, Below.refl _ _⟩
 case round =>
  obtain ⟨k, hk, rfl, rfl, HB⟩ := hrel
  by_cases hlt : k < 8
  · have hcs : k = 0 ∨ k = 1 ∨ k = 2 ∨ k = 3 ∨ k = 4 ∨ k = 5 ∨ k = 6 ∨ k = 7 := by omega
    rcases hcs with rfl | rfl | rfl | rfl | rfl | rfl | rfl | rfl
    · have hb : (s[0]'(by omega)).toNat = (N / 72057594037927936) % 256 := HBY.out 0 (by omega)
      have hor := or_byte (N / 18446744073709551616) ((N / 72057594037927936) % 256) (by omega) (by omega)
      have hst : (N / 18446744073709551616) * 256 + (N / 72057594037927936) % 256 = N / 72057594037927936 := by omega
      rw [hst, show ((N / 18446744073709551616 : Nat) : Int) = (N : Int) / 18446744073709551616 from by omega, show ((N / 72057594037927936 % 256 : Nat) : Int) = (N : Int) / 72057594037927936 % 256 from by omega, show ((N / 72057594037927936 : Nat) : Int) = (N : Int) / 72057594037927936 from by omega] at hor
      simp only [Nat.reduceMul, Nat.reduceSub, Nat.reducePow] at *
      generalize hbb : (s[0]'(by omega)).toNat = b at *
      subst hb
      go_wp2_with fail
      go_roundw
      case rel => exact ⟨1, by omega, by go_num, by simp, HB.out⟩
      case measure => simp [intOf]
    · have hb : (s[1]'(by omega)).toNat = (N / 281474976710656) % 256 := HBY.out 1 (by omega)
      have hor := or_byte (N / 72057594037927936) ((N / 281474976710656) % 256) (by omega) (by omega)
      have hst : (N / 72057594037927936) * 256 + (N / 281474976710656) % 256 = N / 281474976710656 := by omega
      rw [hst, show ((N / 72057594037927936 : Nat) : Int) = (N : Int) / 72057594037927936 from by omega, show ((N / 281474976710656 % 256 : Nat) : Int) = (N : Int) / 281474976710656 % 256 from by omega, show ((N / 281474976710656 : Nat) : Int) = (N : Int) / 281474976710656 from by omega] at hor
      simp only [Nat.reduceMul, Nat.reduceSub, Nat.reducePow] at *
      generalize hbb : (s[1]'(by omega)).toNat = b at *
      subst hb
      go_wp2_with fail
      go_roundw
      case rel => exact ⟨2, by omega, by go_num, by simp, HB.out⟩
      case measure => simp [intOf]
    · have hb : (s[2]'(by omega)).toNat = (N / 1099511627776) % 256 := HBY.out 2 (by omega)
      have hor := or_byte (N / 281474976710656) ((N / 1099511627776) % 256) (by omega) (by omega)
      have hst : (N / 281474976710656) * 256 + (N / 1099511627776) % 256 = N / 1099511627776 := by omega
      rw [hst, show ((N / 281474976710656 : Nat) : Int) = (N : Int) / 281474976710656 from by omega, show ((N / 1099511627776 % 256 : Nat) : Int) = (N : Int) / 1099511627776 % 256 from by omega, show ((N / 1099511627776 : Nat) : Int) = (N : Int) / 1099511627776 from by omega] at hor
      simp only [Nat.reduceMul, Nat.reduceSub, Nat.reducePow] at *
      generalize hbb : (s[2]'(by omega)).toNat = b at *
      subst hb
      go_wp2_with fail
      go_roundw
      case rel => exact ⟨3, by omega, by go_num, by simp, HB.out⟩
      case measure => simp [intOf]
    · have hb : (s[3]'(by omega)).toNat = (N / 4294967296) % 256 := HBY.out 3 (by omega)
      have hor := or_byte (N / 1099511627776) ((N / 4294967296) % 256) (by omega) (by omega)
      have hst : (N / 1099511627776) * 256 + (N / 4294967296) % 256 = N / 4294967296 := by omega
      rw [hst, show ((N / 1099511627776 : Nat) : Int) = (N : Int) / 1099511627776 from by omega, show ((N / 4294967296 % 256 : Nat) : Int) = (N : Int) / 4294967296 % 256 from by omega, show ((N / 4294967296 : Nat) : Int) = (N : Int) / 4294967296 from by omega] at hor
      simp only [Nat.reduceMul, Nat.reduceSub, Nat.reducePow] at *
      generalize hbb : (s[3]'(by omega)).toNat = b at *
      subst hb
      go_wp2_with fail
      go_roundw
      case rel => exact ⟨4, by omega, by go_num, by simp, HB.out⟩
      case measure => simp [intOf]
    · have hb : (s[4]'(by omega)).toNat = (N / 16777216) % 256 := HBY.out 4 (by omega)
      have hor := or_byte (N / 4294967296) ((N / 16777216) % 256) (by omega) (by omega)
      have hst : (N / 4294967296) * 256 + (N / 16777216) % 256 = N / 16777216 := by omega
      rw [hst, show ((N / 4294967296 : Nat) : Int) = (N : Int) / 4294967296 from by omega, show ((N / 16777216 % 256 : Nat) : Int) = (N : Int) / 16777216 % 256 from by omega, show ((N / 16777216 : Nat) : Int) = (N : Int) / 16777216 from by omega] at hor
      simp only [Nat.reduceMul, Nat.reduceSub, Nat.reducePow] at *
      generalize hbb : (s[4]'(by omega)).toNat = b at *
      subst hb
      go_wp2_with fail
      go_roundw
      case rel => exact ⟨5, by omega, by go_num, by simp, HB.out⟩
      case measure => simp [intOf]
    · have hb : (s[5]'(by omega)).toNat = (N / 65536) % 256 := HBY.out 5 (by omega)
      have hor := or_byte (N / 16777216) ((N / 65536) % 256) (by omega) (by omega)
      have hst : (N / 16777216) * 256 + (N / 65536) % 256 = N / 65536 := by omega
      rw [hst, show ((N / 16777216 : Nat) : Int) = (N : Int) / 16777216 from by omega, show ((N / 65536 % 256 : Nat) : Int) = (N : Int) / 65536 % 256 from by omega, show ((N / 65536 : Nat) : Int) = (N : Int) / 65536 from by omega] at hor
      simp only [Nat.reduceMul, Nat.reduceSub, Nat.reducePow] at *
      generalize hbb : (s[5]'(by omega)).toNat = b at *
      subst hb
      go_wp2_with fail
      go_roundw
      case rel => exact ⟨6, by omega, by go_num, by simp, HB.out⟩
      case measure => simp [intOf]
    · have hb : (s[6]'(by omega)).toNat = (N / 256) % 256 := HBY.out 6 (by omega)
      have hor := or_byte (N / 65536) ((N / 256) % 256) (by omega) (by omega)
      have hst : (N / 65536) * 256 + (N / 256) % 256 = N / 256 := by omega
      rw [hst, show ((N / 65536 : Nat) : Int) = (N : Int) / 65536 from by omega, show ((N / 256 % 256 : Nat) : Int) = (N : Int) / 256 % 256 from by omega, show ((N / 256 : Nat) : Int) = (N : Int) / 256 from by omega] at hor
      simp only [Nat.reduceMul, Nat.reduceSub, Nat.reducePow] at *
      generalize hbb : (s[6]'(by omega)).toNat = b at *
      subst hb
      go_wp2_with fail
      go_roundw
      case rel => exact ⟨7, by omega, by go_num, by simp, HB.out⟩
      case measure => simp [intOf]
    · have hb : (s[7]'(by omega)).toNat = (N / 1) % 256 := HBY.out 7 (by omega)
      have hor := or_byte (N / 256) ((N / 1) % 256) (by omega) (by omega)
      have hst : (N / 256) * 256 + (N / 1) % 256 = N / 1 := by omega
      rw [hst, show ((N / 256 : Nat) : Int) = (N : Int) / 256 from by omega, show ((N / 1 % 256 : Nat) : Int) = (N : Int) / 1 % 256 from by omega, show ((N / 1 : Nat) : Int) = (N : Int) / 1 from by omega] at hor
      simp only [Nat.reduceMul, Nat.reduceSub, Nat.reducePow] at *
      generalize hbb : (s[7]'(by omega)).toNat = b at *
      subst hb
      go_wp2_with fail
      go_roundw
      case rel => exact ⟨8, by omega, by go_num, by simp only [Int.ediv_one] at hor; simp; exact hor, HB.out⟩
      case measure => simp [intOf]
  · obtain rfl : k = 8 := by omega
    go_wp2_with fail
    go_ret
    exact ⟨by simp, HB.out⟩
theorem ext_list (s : ByteArray) (i j : Nat) : (s.extract i j).data.toList = (s.data.toList.drop i).take (j - i) := by
 rw [ByteArray.data_extract, Array.toList_extract]
theorem str_ext {a b : ByteArray} (h : a.data.toList = b.data.toList) : a = b := by
 apply bytes_ext
 rw [toList_data, toList_data, h]
theorem str_back (s : ByteArray) : (⟨s.data.toList.toArray⟩ : ByteArray) = s := str_ext (by simp)
def TakePost (v : ByteArray) (s : ByteArray) (r : List UInt8) (w : World) (e : Ending) (w' : World) : Prop := ∃ t : ByteArray, e = .returned (.tuple #[.string s, .string t, .bool true]) ∧ t.data.toList = r ∧ Below w.heap.size w w'
set_option maxRecDepth 100000 in
set_option maxHeartbeats 8000000 in
theorem l02Take_any (v s : ByteArray) (r : List UInt8) (w : World) (hv : v.data.toList = subE s ++ r) (hp : pureS s) (hpos : 0 < s.size) (hz : v.size ≤ 1048576) :
 Calls Tryz.prog 204 #[.string v] w (TakePost v s r w) := by
 obtain ⟨i0, hi, hz0, hz1, hz2⟩ := info_parts infoByte
 have hsz : v.size = (subE s).length + r.length := by
  have := congrArg List.length hv
  rw [List.length_append, Array.length_toList] at this
  exact this
 obtain ⟨hn1, hn2, hn3⟩ := encN_bd s
 have hl : s.data.toList.length = s.size := by rw [Array.length_toList]; rfl
 by_cases hc : canonB s = true
 · have hse : subE s = 1 :: be8 (encN s) := by unfold subE; rw [if_pos hc]
   rw [hse, List.length_cons, be8_len] at hsz
   have h9 : 9 ≤ v.size := by omega
   have HX : Hid ((v.extract 1 9).data.toList = be8 (encN s)) := by
    unfold Hid
    rw [ext_list, hv, hse]
    simp [be8_len]
   have HX2 : Hid ((v.extract 9 v.size).data.toList = r) := by
    unfold Hid
    rw [ext_list, hv, hse, List.take_of_length_le (by simp [be8_len]; omega)]
    simp [be8_len]
   have hv0 : 0 < v.size := by omega
   have h0 : v[0]'hv0 = 1 := str_at hv hv0 (by rw [hse]; rfl)
   have hb0 : (((v[0]'hv0).toNat : Int) == (1 : Int)) = true := by rw [h0]; rfl
   have HK1 := Lib.hid (fun W => l02Num_any (v.extract 1 9) (encN s) W HX.out hn2)
   have HK2 := Lib.hid (fun W => l00In_any (encN s : Int) 1 1999999999999999999 W)
   have hin : inB (encN s : Int) 1 1999999999999999999 = true := by unfold inB; simp; omega
   rw [hin] at HK2
   have hbd := numS_bd' s.data.toList
   have HK3 := Lib.hid (fun W => l01Text_any (numS s.data.toList) W hbd.1 hbd.2)
   have HTX : Hid ((⟨(numText (numS s.data.toList)).toArray⟩ : ByteArray) = s) := by
    unfold Hid
    apply str_ext
    unfold canonB at hc
    rw [decide_eq_true_eq] at hc
    simpa using hc
   have hw1 : (encN s : Int) - 1000000000000000000 = numS s.data.toList := by omega
   have HW1 := Lib.hid hw1
   clear hv hp hl hc hse hn3 hbd HX hin h0 hsz
   generalize encN s = N at *
   generalize numS s.data.toList = M at *
   have hM : IntKind.i64.wrap ((N : Int) - 1000000000000000000) = M := by rw [IntKind.wrap_i64]; omega
   clear hw1
   go_enter Tryz.func204, Tryz.ntmps204
   go_wp2_with fail
   refine (HK1.out _).mono ?_
   rintro e w1 ⟨rfl, hb1⟩
   have HB1 := Lib.hid hb1
   clear hb1
   go_wp2_with fail
   refine (HK2.out _).mono ?_
   rintro e w2 ⟨rfl, rfl⟩
   go_wp2_with fail
   go_region_held3 (fun w' => True) (trivial)
    (first | (go_at_call 260; refine (HK3.out _).mono ?_; rintro e w3 ⟨rfl, hb3'⟩; have hb3 := undrew hb3'; clear hb3'))
   have HB3 := Lib.hid (HB1.out.later hb3)
   clear hb3
   go_wp2_with fail
   go_ret3
   refine ⟨v.extract 9 v.size, ?_, HX2.out, HB3.out⟩
   rw [← HTX.out]
   rfl
 · have hse : subE s = 2 :: (s.data.toList ++ [0, 0]) := by unfold subE; rw [if_neg hc]
   have hsl : (subE s).length = s.size + 3 := by rw [hse, List.length_cons, List.length_append, hl]; rfl
   rw [hsl] at hsz
   have hz9 : s.size + 3 ≤ v.size := by omega
   have hv0 : 0 < v.size := by omega
   have hvk1 : ∀ k, k < s.size → k + 1 < v.size := fun k h => by omega
   have hv1 : s.size + 1 < v.size := by omega
   have hv2 : s.size + 2 < v.size := by omega
   have h0 : v[0]'hv0 = 2 := str_at hv hv0 (by rw [hse]; rfl)
   have hb0 : (((v[0]'hv0).toNat : Int) == (1 : Int)) = false := by rw [h0]; rfl
   have hb1 : (((v[0]'hv0).toNat : Int) != (2 : Int)) = false := by rw [h0]; rfl
   have hb2 : (((v[0]'hv0).toNat : Int) == (2 : Int)) = true := by rw [h0]; rfl
   have HAT : Hid (∀ k (h : k < s.size), v[k + 1]'(hvk1 k h) = s[k]) := fun k h => str_at hv (hvk1 k h) (by
    rw [hse, List.cons_append, List.getElem?_cons_succ, List.append_assoc, List.getElem?_append_left (by rw [hl]; exact h), Array.getElem?_toList]
    exact Array.getElem?_eq_getElem h)
   have HZ1 : Hid (v[s.size + 1]'hv1 = 0) := str_at hv hv1 (by
    rw [hse, List.cons_append, List.getElem?_cons_succ, List.append_assoc, List.getElem?_append_right (by rw [hl]; omega), hl, Nat.sub_self]
    rfl)
   have HZ2 : Hid (v[s.size + 2]'hv2 = 0) := str_at hv hv2 (by
    rw [hse, List.cons_append, List.getElem?_cons_succ, List.append_assoc, List.getElem?_append_right (by rw [hl]; omega), hl, show s.size + 1 - s.size = 1 by omega]
    rfl)
   have HX2 : Hid ((v.extract (s.size + 3) v.size).data.toList = r) := by
    unfold Hid
    rw [ext_list, hv, List.drop_left' hsl, List.take_of_length_le (by omega)]
   have HP : Hid (∀ k (h : k < s.size), s[k] ≠ 0) := fun k h e => hp (by rw [← e]; exact Array.getElem_mem_toList h)
   have HSL : Hid (s.data.toList.length = s.size) := hl
   clear hv hp hl hc hse hn1 hn2 hn3 hsl hsz h0
   obtain ⟨W0, hW0⟩ : ∃ W0, W0 = w.alloc (.cells #[] 5) := ⟨_, rfl⟩
   have HU0 : Hid (BytO W0 w.heap.size (.slice (some ⟨w.heap.size, 0, none⟩) 0 0) []) := by subst hW0; exact byt_lit w _ (Nat.le_refl _)
   have HB0 : Hid (Below w.heap.size w W0) := by subst hW0; exact Below.new _ _
   go_enter Tryz.func204, Tryz.ntmps204
   go_wp2_with fail
   rw [← hW0]
   clear hW0
   go_loopw [6, 7] (fun o i wr => ∃ k : Nat, k ≤ s.size ∧ i = .int .i64 ((k : Int) + 1) ∧ Hid (BytO wr w.heap.size o (s.data.toList.take k)) ∧ Hid (Below w.heap.size w wr)) (fun _ i _ => s.size + 1 - (intOf i).toNat)
   case atStart => exact ⟨0, Nat.zero_le _, rfl, HU0.out, HB0.out⟩
   case round =>
    obtain ⟨k, hk, rfl, HU, HB⟩ := hrel
    have hszr := HB.out.size
    obtain ⟨A, cap, rfl, hcap⟩ := byt_slice HU.out
    have HL : Hid ((s.data.toList.take k).length = k) := by unfold Hid; rw [List.length_take, HSL.out]; omega
    rw [HL.out] at hcap HU ⊢
    have hvk : k + 1 < v.size := by omega
    have hvi : ((k : Int) + 1).toNat = k + 1 := by omega
    have hc1 : (k : Int) + 1 + 1 < (v.size : Int) := by omega
    by_cases hlt : k < s.size
    · have HT := Lib.hid (byte_at s k hlt)
      have hbb := HAT.out k hlt
      have hne := HP.out k hlt
      rw [← hbb] at hne HT
      have hb3 : (((v[k + 1]'hvk).toNat : Int) != (0 : Int)) = true := by
       have := byte_nz hne
       simpa [bne] using this
      have HRr : Hid (∀ o, (wr.alloc o).ownsRow w.heap.size 5 1 (.slice A k cap) k (Go.Lib.byteCells (s.data.toList.take k))) := fun o => by
       have h := HU.out.later (Below.new wr o)
       unfold BytO at h
       rw [HL.out] at h
       exact h
      clear hbb hne HX2 HZ1 HZ2
      go_wp2_with (at_builtin; refine wpList_append_own _ rfl (.tmp 42) (.tmp 46) 22 rfl w.heap.size 5 i0 _ 1 1 Tryz.underlying22 hi hz0 hz1 hz2 rfl (by decide) _ k _ rfl (HRr.out _) ⟨_, 0, none⟩ 1 1 [.int .u8 (v[k + 1]'hvk).toNat] rfl rfl ?c1 ?c2 ?c3 ?c4 ?c5 ?_)
      case c1 => exact cell_one_new _ _ _
      case c2 => simp [Value.oneCell']
      case c3 => unfold maxLen; omega
      case c4 => omega
      case c5 => simp; omega
      intro v4 w4 hown4 hg4 _
      have HU4 : Hid (BytO w4 w.heap.size v4 (s.data.toList.take (k + 1))) := by
       unfold Hid
       rw [HT.out]
       exact byt_app hown4 HL.out.symm rfl
      have HB4 : Hid (Below w.heap.size w w4) := (HB.out.later (Below.new _ _)).grown hg4 (by simp; omega) (fun g hg => ((HRr.out (.cells #[] 0)).lt g hg).1)
      clear hown4 hg4
      go_wp2_with fail
      go_roundw
      case rel => exact ⟨k + 1, by omega, by go_num, HU4.out, HB4.out⟩
      case measure => simp [intOf]; omega
    · obtain rfl : k = s.size := by omega
      have hb3 : (((v[s.size + 1]'hvk).toNat : Int) != (0 : Int)) = false := by rw [HZ1.out]; rfl
      have hb4 : (((v[s.size + 2]'hv2).toNat : Int) == (0 : Int)) = true := by rw [HZ2.out]; rfl
      have hcv := conv_byt HU.out HL.out.symm hpos
      have HE : Hid (s.data.toList.take s.size = s.data.toList) := List.take_of_length_le (by rw [HSL.out]; exact Nat.le_refl _)
      rw [HE.out] at hcv
      clear HAT HP
      have hvi2 : ((s.size : Int) + 1 + 1).toNat = s.size + 2 := by omega
      have hvi3 : ((s.size : Int) + 1 + 2).toNat = s.size + 3 := by omega
      have hcv2 := fun q => conv_byt (w := wr.drewN q) (base := w.heap.size) (A := A) (cap := cap) (n := s.size) (l := s.data.toList) (by have h := HU.out; rw [HE.out] at h; exact h) HSL.out.symm hpos
      have hcv3 := conv_byt (w := wr.drew) (base := w.heap.size) (A := A) (cap := cap) (n := s.size) (l := s.data.toList) (by have h := HU.out; rw [HE.out] at h; exact h) HSL.out.symm hpos
      go_wp2_with fail
      go_region
      go_wp2_with fail
      go_ret3
      refine ⟨v.extract (s.size + 3) v.size, ?_, HX2.out, below_drewN HB.out _⟩
      rw [show Value.string s = .string ⟨s.data.toList.toArray⟩ from congrArg Value.string (str_back s).symm]
      rfl
end Go.Proofs.YtlicffeicmoifaaGreatDoor
namespace Go.Proofs.YtlicffeicmoifaaGreatDoor
open Go.RowKit Go.Proofs.YtlicffeicmoifaaGreatDoor.Own
theorem Blk.at {w : World} {g : Nat} {t : TypeId} {cs : Array Value} (h : Blk w g t cs) (i : Nat) {v : Value} (hv : cs[i]? = some v) : w.cell? ⟨g, i, none⟩ = some v := (h.cell i).trans hv
end Go.Proofs.YtlicffeicmoifaaGreatDoor
namespace Go.Proofs.YtlicffeicmoifaaGreatDoor
open Go.RowKit
theorem oneCells_strs (ss : List ByteArray) : ∀ u ∈ ss.map Value.string, u.oneCell' = true := by
 intro u hu
 obtain ⟨s, _, rfl⟩ := List.mem_map.1 hu
 rfl
end Go.Proofs.YtlicffeicmoifaaGreatDoor
namespace Go.Proofs.YtlicffeicmoifaaGreatDoor
open Go.RowKit
set_option linter.unusedVariables false
set_option maxHeartbeats 400000 in
theorem l02Same_any (A A' : Option Addr) (n c n' c' : Nat) (ss ts : List ByteArray) (w : World) (h : Strs w w.heap.size A n ss) (h' : Strs w w.heap.size A' n' ts) (hn : n ≤ 1048576) (hn' : n' ≤ 1048576) :
 Calls Tryz.prog 195 #[.slice A n c, .slice A' n' c'] w fun e w' => e = .returned (.bool (eqS ss ts)) ∧ ∃ q, w' = w.drewN q := by
 obtain ⟨hlen, hc⟩ := h
 obtain ⟨hlen', hc'⟩ := h'
 have hE := eqS_starts ss ts
 rw [hlen, hlen'] at hE
 have Hc := Lib.hid hc
 have Hlen := Lib.hid hlen
 have Hc' := Lib.hid hc'
 have Hlen' := Lib.hid hlen'
 clear hc hlen hc' hlen'
 by_cases hne : n = n'
 · subst hne
   have HE : Hid (eqS ss ts = startsB ss ts) := by unfold Hid; rw [← hE]; simp
   clear hE
   generalize eqS ss ts = R at *
   go_enter Tryz.func195, Tryz.ntmps195
   go_wp2_with fail
   go_loopw [5] (fun i wr => ∃ (k : Nat), k ≤ n ∧ i = .int .i64 k ∧ (∃ q, wr = w.drewN q) ∧ Hid (startsB ss ts = startsB (ss.drop k) (ts.drop k))) (fun i _ => n - (intOf i).toNat)
   case atStart => exact ⟨0, Nat.zero_le _, rfl, ⟨0, rfl⟩, rfl⟩
   case round =>
    obtain ⟨k, hk, rfl, ⟨q, rfl⟩, hS⟩ := hrel
    by_cases hlt : k < n
    · obtain ⟨b, o, rfl, hb, hcell⟩ := Hc.out (by omega)
      obtain ⟨b', o', rfl, hb', hcell'⟩ := Hc'.out (by omega)
      have hck := hcell k hlt
      have hck' := hcell' k (by omega)
      clear hcell hcell'
      have HS := Lib.hid (startsB_step ss ts k (by rw [Hlen.out]; exact hlt) (by rw [Hlen'.out]; omega))
      generalize ss.getD k ByteArray.empty = s at *
      generalize ts.getD k ByteArray.empty = t at *
      go_wp2_with fail
      go_quiet (fail)
      go_wp2_with fail
      · go_ret
        have hst : s ≠ t := str_ne (by assumption)
        exact ⟨ret_bool (by rw [HE.out, hS.out, HS.out, decide_eq_false hst]; rfl), _, World.drewN_drewN _ _ _⟩
      · go_roundw
        case rel =>
         have hst : s = t := str_eq (by assumption)
         exact ⟨k + 1, by omega, by go_num, ⟨_, rfl⟩, by unfold Hid; rw [hS.out, HS.out, decide_eq_true hst]; rfl⟩
        case measure => simp [intOf]; omega
    · go_wp2_with fail
      go_ret
      exact ⟨ret_bool (by rw [HE.out, hS.out, List.drop_of_length_le (by rw [Hlen.out]; omega), startsB_nil]), _, rfl⟩
 · have HE : Hid (false = eqS ss ts) := by unfold Hid; rw [← hE]; simp [hne]
   have hb : ((n : Int) == (n' : Int)) = false := by rw [beq_eq_false_iff_ne]; omega
   have hb2 : (n == n') = false := by rw [beq_eq_false_iff_ne]; omega
   clear hE hne
   go_enter Tryz.func195, Tryz.ntmps195
   go_wp2_with fail
   go_ret
   exact ⟨ret_bool HE.out, 0, rfl⟩
set_option maxHeartbeats 400000 in
theorem SameSubs_any (A A' : Option Addr) (n c n' c' : Nat) (ss ts : List ByteArray) (w : World) (h : Strs w w.heap.size A n ss) (h' : Strs w w.heap.size A' n' ts) (hn : n ≤ 1048576) (hn' : n' ≤ 1048576) :
 Calls Tryz.prog 104 #[.slice A n c, .slice A' n' c'] w fun e w' => e = .returned (.bool (eqS ss ts)) ∧ ∃ q, w' = w.drewN q := by
 have HK := Lib.hid (l02Same_any A A' n c n' c' ss ts w h h' hn hn')
 clear h h'
 generalize eqS ss ts = x at *
 go_enter Tryz.func104, Tryz.ntmps104
 go_wp2_with fail
 refine HK.out.mono ?_
 rintro e w1 ⟨rfl, q, rfl⟩
 go_wp2_with fail
 go_ret
 exact ⟨rfl, q, rfl⟩
set_option maxRecDepth 100000 in
set_option maxHeartbeats 1000000 in
theorem l03Subs_any (A : Option Addr) (n c : Nat) (ss : List ByteArray) (w : World) (h : Strs w w.heap.size A n ss) (hn : n ≤ 1048576) :
 Calls Tryz.prog 253 #[.slice A n c] w fun e w' => ∃ A' c', e = .returned (.slice A' n c') ∧ n ≤ c' ∧ Own.SubO w' w.heap.size (.slice A' n c') ss ∧ Below w.heap.size w w' := by
 have HN := Lib.hid h.1
 obtain ⟨i0, hi, hz0, hz1, hz2⟩ := info_parts infoS
 have Hh := Lib.hid (strs_reads h)
 clear h
 go_enter Tryz.func253, Tryz.ntmps253
 go_wp2_with (at_builtin; refine wpList_append_any _ rfl (.tmp 3) (.tmp 4) 35 rfl w.heap.size 9 i0 _ 1 16 Tryz.underlying35 hi hz0 hz1 hz2 rfl (by decide) _ 0 [] rfl (World.ownsRow_lit _ _ 0 (Nat.le_refl _) (by omega) rfl) w.heap.size A n c (ss.map Value.string) rfl (Hh.out.alloc (Nat.le_refl _) _) (oneCells_strs ss) ?c1 ?c2 ?c3 ?_)
 case c1 => unfold maxLen; omega
 case c2 => omega
 case c3 => simp
 intro v w1 ho hg _
 have HB := Lib.hid (below_own (w0 := w) (size := 1) (n := 0) (xs := []) (Below.new _ _) (World.ownsRow_lit _ _ 0 (Nat.le_refl _) (by omega) rfl) (Nat.le_refl _) hg)
 obtain ⟨A', c', rfl, hc, _, _⟩ := Own.own_slice ho
 have HS := Lib.hid ho
 clear ho hg
 go_wp2_with fail
 go_ret
 exact ⟨A', c', rfl, hc, by unfold Own.SubO; rw [HN.out]; exact HS.out, HB.out⟩
set_option maxHeartbeats 400000 in
theorem l03Begins_any (A A' : Option Addr) (n c n' c' : Nat) (ss ts : List ByteArray) (w : World) (h : Strs w w.heap.size A n ss) (h' : Strs w w.heap.size A' n' ts) (hn' : n' ≤ 1048576) (hc : n ≤ c) :
 Calls Tryz.prog 302 #[.slice A n c, .slice A' n' c'] w fun e w' => e = .returned (.bool (startsB ts ss)) ∧ ∃ q, w' = w.drewN q := by
 have hE := startsB_take ts ss
 rw [h.1, h'.1] at hE
 by_cases hle : n' ≤ n
 · have HK := Lib.hid (SameSubs_any A A' n' c n' c' (ss.take n') ts w (h.take n' hle) h' (by omega) hn')
   have HE : Hid (eqS (ss.take n') ts = startsB ts ss) := by unfold Hid; rw [← hE]; simp [hle]
   clear h h' hE
   generalize eqS (ss.take n') ts = x at *
   go_enter Tryz.func302, Tryz.ntmps302
   go_wp2_with fail
   refine HK.out.mono ?_
   rintro e w1 ⟨rfl, q, rfl⟩
   go_wp2_with fail
   go_ret
   exact ⟨ret_bool HE.out, q, rfl⟩
 · have HE : Hid (false = startsB ts ss) := by unfold Hid; rw [← hE]; simp [hle]
   clear h h' hE
   go_enter Tryz.func302, Tryz.ntmps302
   go_wp2_with fail
   go_ret
   exact ⟨ret_bool HE.out, 0, rfl⟩
set_option maxHeartbeats 400000 in
theorem l03In_any (c0 c1 c2 : Value) (A : Option Addr) (n c : Nat) (d : NodeD) (nm : ByteArray) (ss : List ByteArray) (w : World) (h : NodeR w w.heap.size c0 c1 c2 d) (h' : Strs w w.heap.size A n ss) (hn : n ≤ 1048576) :
 Calls Tryz.prog 301 #[.agg #[c0, c1, c2], .string nm, .slice A n c] w fun e w' => e = .returned (.bool (inN nm ss d)) ∧ Below w.heap.size w w' := by
 obtain ⟨rfl, ⟨A1, n1, p1, rfl, s1, k1⟩, rfl⟩ := h
 have HR : Hid (inN nm ss d = (decide (d.name = nm) && startsB ss d.subs)) := rfl
 have HK := Lib.hid (l03Begins_any A1 A n1 p1 n c d.subs ss (w.alloc (.cells #[.string d.name, .slice A1 n1 p1, .string d.val] 89)) (s1.later (Below.new _ _)) (h'.later (Below.new _ _)) hn k1)
 clear s1 h'
 generalize inN nm ss d = R at *
 generalize startsB ss d.subs = x at *
 generalize d.name = dn at *
 generalize d.val = dv at *
 by_cases he : dn = nm
 · subst he
   have HE : Hid (R = x) := by unfold Hid; rw [HR.out]; simp
   clear HR
   go_enter Tryz.func301, Tryz.ntmps301
   go_wp2_with fail
   refine HK.out.mono ?_
   rintro e w1 ⟨rfl, q, rfl⟩
   go_wp2_with fail
   go_ret
   exact ⟨ret_bool HE.out.symm, below_drewN (Below.new _ _) q⟩
 · have HE : Hid (R = false) := by unfold Hid; rw [HR.out]; simp [he]
   have hb := str_beq he
   clear HR HK he
   go_enter Tryz.func301, Tryz.ntmps301
   go_wp2_with fail
   go_ret
   exact ⟨ret_bool HE.out.symm, Below.new _ _⟩
end Go.Proofs.YtlicffeicmoifaaGreatDoor
