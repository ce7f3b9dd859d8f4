import Derived.Test.YtlicffeicmoifaaGreatDoorZ17
set_option linter.unusedSimpArgs false
namespace Go.Proofs.YtlicffeicmoifaaGreatDoor
open Go.RowKit
set_option linter.unusedVariables false
set_option maxRecDepth 100000 in
set_option maxHeartbeats 8000000 in
theorem getNumber_any (s : ByteArray) (N : Nat) (r : List UInt8) (w : World) (htab : tabT w) (hs : s.data.toList = be8 N ++ r) (hN0 : 0 < N) (hN : N < 2000000000000000000) (hz : s.size ≤ 1048576) :
 Calls Tryz.prog 257 #[.string s] w (TakePost s ⟨(numText ((N : Int) - 1000000000000000000)).toArray⟩ r w) := by
 have hsz : s.size = 8 + r.length := by
  have := congrArg List.length hs
  rw [List.length_append, be8_len, Array.length_toList] at this
  exact this
 have h8 : 8 ≤ s.size := by omega
 have h8b : ∀ k, k < 8 → k < s.size := fun k h => by omega
 have HBY : Hid (∀ k (h : k < 8), (s[k]'(h8b k h)).toNat = (N / 2 ^ (56 - 8 * k)) % 256) := fun k h => by
  rw [str_at hs (h8b k h) (by rw [List.getElem?_append_left (by rw [be8_len]; exact h)]; exact be8_at N k h), UInt8.toNat_ofNat']
  have := Nat.mod_lt (N / 2 ^ (56 - 8 * k)) (show 0 < 256 by decide)
  rw [Nat.mod_eq_of_lt (a := N / 2 ^ (56 - 8 * k) % 256) (by simpa using this)]
 have HX2 : Hid ((s.extract 8 s.size).data.toList = r) := by
  unfold Hid
  rw [ext_list, hs, List.drop_left' (be8_len N), List.take_of_length_le (by omega)]
 have HKT := Lib.hid (fun W (hW : Below w.heap.size w W) => NumText_any ((N : Int) - 1000000000000000000) W (tab_later htab hW) (by omega) (by omega))
 clear hs hsz htab
 go_enter Tryz.func257, Tryz.ntmps257
 go_wp2_with fail
 go_loopw [5, 10] (fun v i wr => ∃ k : Nat, k ≤ 8 ∧ i = .int .i64 k ∧ v = .int .u64 ((N / 2 ^ (64 - 8 * k) : Nat) : Int) ∧ Hid (Below w.heap.size w wr)) (fun _ i _ => 8 - (intOf i).toNat)
 case atStart => exact ⟨0, by omega, rfl, by rw [show N / 2 ^ (64 - 8 * 0) = 0 from by simp only [Nat.mul_zero, Nat.sub_zero, Nat.reducePow]; omega]; rfl, Below.refl _ _⟩
 case round =>
  obtain ⟨k, hk, rfl, rfl, HB⟩ := hrel
  by_cases hlt : k < 8
  · have hcs : k = 0 ∨ k = 1 ∨ k = 2 ∨ k = 3 ∨ k = 4 ∨ k = 5 ∨ k = 6 ∨ k = 7 := by omega
    rcases hcs with rfl | rfl | rfl | rfl | rfl | rfl | rfl | rfl
    · have hb : (s[0]'(by omega)).toNat = (N / 72057594037927936) % 256 := HBY.out 0 (by omega)
      have hst : (N : Int) / 18446744073709551616 * 256 + (N : Int) / 72057594037927936 % 256 = (N : Int) / 72057594037927936 := by omega
      have hbI : ((s[0]'(by omega)).toNat : Int) = (N : Int) / 72057594037927936 % 256 := by rw [hb]; omega
      simp only [Nat.reduceMul, Nat.reduceSub, Nat.reducePow] at *
      generalize hbb : ((s[0]'(by omega)).toNat : Int) = b at *
      have hb0 : 0 ≤ b := by omega
      have hb2 : b < 256 := by omega
      have hw1 : IntKind.u64.wrap ((N : Int) / 18446744073709551616 * 256) = (N : Int) / 18446744073709551616 * 256 := by rw [IntKind.wrap_u64]; omega
      have hw2 : IntKind.u64.wrap ((N : Int) / 18446744073709551616 * 256 + b) = (N : Int) / 72057594037927936 := by rw [IntKind.wrap_u64]; omega
      have hw3 : IntKind.u64.wrap b = b := by rw [IntKind.wrap_u64]; omega
      clear hb hst
      go_wp2_with fail
      go_roundw
      case rel => exact ⟨1, by omega, by go_num, by simp; omega, HB.out⟩
      case measure => simp [intOf]
    · have hb : (s[1]'(by omega)).toNat = (N / 281474976710656) % 256 := HBY.out 1 (by omega)
      have hst : (N : Int) / 72057594037927936 * 256 + (N : Int) / 281474976710656 % 256 = (N : Int) / 281474976710656 := by omega
      have hbI : ((s[1]'(by omega)).toNat : Int) = (N : Int) / 281474976710656 % 256 := by rw [hb]; omega
      simp only [Nat.reduceMul, Nat.reduceSub, Nat.reducePow] at *
      generalize hbb : ((s[1]'(by omega)).toNat : Int) = b at *
      have hb0 : 0 ≤ b := by omega
      have hb2 : b < 256 := by omega
      have hw1 : IntKind.u64.wrap ((N : Int) / 72057594037927936 * 256) = (N : Int) / 72057594037927936 * 256 := by rw [IntKind.wrap_u64]; omega
      have hw2 : IntKind.u64.wrap ((N : Int) / 72057594037927936 * 256 + b) = (N : Int) / 281474976710656 := by rw [IntKind.wrap_u64]; omega
      have hw3 : IntKind.u64.wrap b = b := by rw [IntKind.wrap_u64]; omega
      clear hb hst
      go_wp2_with fail
      go_roundw
      case rel => exact ⟨2, by omega, by go_num, by simp; omega, HB.out⟩
      case measure => simp [intOf]
    · have hb : (s[2]'(by omega)).toNat = (N / 1099511627776) % 256 := HBY.out 2 (by omega)
      have hst : (N : Int) / 281474976710656 * 256 + (N : Int) / 1099511627776 % 256 = (N : Int) / 1099511627776 := by omega
      have hbI : ((s[2]'(by omega)).toNat : Int) = (N : Int) / 1099511627776 % 256 := by rw [hb]; omega
      simp only [Nat.reduceMul, Nat.reduceSub, Nat.reducePow] at *
      generalize hbb : ((s[2]'(by omega)).toNat : Int) = b at *
      have hb0 : 0 ≤ b := by omega
      have hb2 : b < 256 := by omega
      have hw1 : IntKind.u64.wrap ((N : Int) / 281474976710656 * 256) = (N : Int) / 281474976710656 * 256 := by rw [IntKind.wrap_u64]; omega
      have hw2 : IntKind.u64.wrap ((N : Int) / 281474976710656 * 256 + b) = (N : Int) / 1099511627776 := by rw [IntKind.wrap_u64]; omega
      have hw3 : IntKind.u64.wrap b = b := by rw [IntKind.wrap_u64]; omega
      clear hb hst
      go_wp2_with fail
      go_roundw
      case rel => exact ⟨3, by omega, by go_num, by simp; omega, HB.out⟩
      case measure => simp [intOf]
    · have hb : (s[3]'(by omega)).toNat = (N / 4294967296) % 256 := HBY.out 3 (by omega)
      have hst : (N : Int) / 1099511627776 * 256 + (N : Int) / 4294967296 % 256 = (N : Int) / 4294967296 := by omega
      have hbI : ((s[3]'(by omega)).toNat : Int) = (N : Int) / 4294967296 % 256 := by rw [hb]; omega
      simp only [Nat.reduceMul, Nat.reduceSub, Nat.reducePow] at *
      generalize hbb : ((s[3]'(by omega)).toNat : Int) = b at *
      have hb0 : 0 ≤ b := by omega
      have hb2 : b < 256 := by omega
      have hw1 : IntKind.u64.wrap ((N : Int) / 1099511627776 * 256) = (N : Int) / 1099511627776 * 256 := by rw [IntKind.wrap_u64]; omega
      have hw2 : IntKind.u64.wrap ((N : Int) / 1099511627776 * 256 + b) = (N : Int) / 4294967296 := by rw [IntKind.wrap_u64]; omega
      have hw3 : IntKind.u64.wrap b = b := by rw [IntKind.wrap_u64]; omega
      clear hb hst
      go_wp2_with fail
      go_roundw
      case rel => exact ⟨4, by omega, by go_num, by simp; omega, HB.out⟩
      case measure => simp [intOf]
    · have hb : (s[4]'(by omega)).toNat = (N / 16777216) % 256 := HBY.out 4 (by omega)
      have hst : (N : Int) / 4294967296 * 256 + (N : Int) / 16777216 % 256 = (N : Int) / 16777216 := by omega
      have hbI : ((s[4]'(by omega)).toNat : Int) = (N : Int) / 16777216 % 256 := by rw [hb]; omega
      simp only [Nat.reduceMul, Nat.reduceSub, Nat.reducePow] at *
      generalize hbb : ((s[4]'(by omega)).toNat : Int) = b at *
      have hb0 : 0 ≤ b := by omega
      have hb2 : b < 256 := by omega
      have hw1 : IntKind.u64.wrap ((N : Int) / 4294967296 * 256) = (N : Int) / 4294967296 * 256 := by rw [IntKind.wrap_u64]; omega
      have hw2 : IntKind.u64.wrap ((N : Int) / 4294967296 * 256 + b) = (N : Int) / 16777216 := by rw [IntKind.wrap_u64]; omega
      have hw3 : IntKind.u64.wrap b = b := by rw [IntKind.wrap_u64]; omega
      clear hb hst
      go_wp2_with fail
      go_roundw
      case rel => exact ⟨5, by omega, by go_num, by simp; omega, HB.out⟩
      case measure => simp [intOf]
    · have hb : (s[5]'(by omega)).toNat = (N / 65536) % 256 := HBY.out 5 (by omega)
      have hst : (N : Int) / 16777216 * 256 + (N : Int) / 65536 % 256 = (N : Int) / 65536 := by omega
      have hbI : ((s[5]'(by omega)).toNat : Int) = (N : Int) / 65536 % 256 := by rw [hb]; omega
      simp only [Nat.reduceMul, Nat.reduceSub, Nat.reducePow] at *
      generalize hbb : ((s[5]'(by omega)).toNat : Int) = b at *
      have hb0 : 0 ≤ b := by omega
      have hb2 : b < 256 := by omega
      have hw1 : IntKind.u64.wrap ((N : Int) / 16777216 * 256) = (N : Int) / 16777216 * 256 := by rw [IntKind.wrap_u64]; omega
      have hw2 : IntKind.u64.wrap ((N : Int) / 16777216 * 256 + b) = (N : Int) / 65536 := by rw [IntKind.wrap_u64]; omega
      have hw3 : IntKind.u64.wrap b = b := by rw [IntKind.wrap_u64]; omega
      clear hb hst
      go_wp2_with fail
      go_roundw
      case rel => exact ⟨6, by omega, by go_num, by simp; omega, HB.out⟩
      case measure => simp [intOf]
    · have hb : (s[6]'(by omega)).toNat = (N / 256) % 256 := HBY.out 6 (by omega)
      have hst : (N : Int) / 65536 * 256 + (N : Int) / 256 % 256 = (N : Int) / 256 := by omega
      have hbI : ((s[6]'(by omega)).toNat : Int) = (N : Int) / 256 % 256 := by rw [hb]; omega
      simp only [Nat.reduceMul, Nat.reduceSub, Nat.reducePow] at *
      generalize hbb : ((s[6]'(by omega)).toNat : Int) = b at *
      have hb0 : 0 ≤ b := by omega
      have hb2 : b < 256 := by omega
      have hw1 : IntKind.u64.wrap ((N : Int) / 65536 * 256) = (N : Int) / 65536 * 256 := by rw [IntKind.wrap_u64]; omega
      have hw2 : IntKind.u64.wrap ((N : Int) / 65536 * 256 + b) = (N : Int) / 256 := by rw [IntKind.wrap_u64]; omega
      have hw3 : IntKind.u64.wrap b = b := by rw [IntKind.wrap_u64]; omega
      clear hb hst
      go_wp2_with fail
      go_roundw
      case rel => exact ⟨7, by omega, by go_num, by simp; omega, HB.out⟩
      case measure => simp [intOf]
    · have hb : (s[7]'(by omega)).toNat = (N / 1) % 256 := HBY.out 7 (by omega)
      have hst : (N : Int) / 256 * 256 + (N : Int) / 1 % 256 = (N : Int) / 1 := by omega
      have hbI : ((s[7]'(by omega)).toNat : Int) = (N : Int) / 1 % 256 := by rw [hb]; omega
      simp only [Nat.reduceMul, Nat.reduceSub, Nat.reducePow] at *
      generalize hbb : ((s[7]'(by omega)).toNat : Int) = b at *
      have hb0 : 0 ≤ b := by omega
      have hb2 : b < 256 := by omega
      have hw1 : IntKind.u64.wrap ((N : Int) / 256 * 256) = (N : Int) / 256 * 256 := by rw [IntKind.wrap_u64]; omega
      have hw2 : IntKind.u64.wrap ((N : Int) / 256 * 256 + b) = (N : Int) / 1 := by rw [IntKind.wrap_u64]; omega
      have hw3 : IntKind.u64.wrap b = b := by rw [IntKind.wrap_u64]; omega
      clear hb hst
      go_wp2_with fail
      go_roundw
      case rel => exact ⟨8, by omega, by go_num, by simp; omega, HB.out⟩
      case measure => simp [intOf]
  · obtain rfl : k = 8 := by omega
    have hc1 : IntKind.i64.wrap (N : Int) = (N : Int) := by rw [IntKind.wrap_i64]; omega
    have hc2 : IntKind.i64.wrap ((N : Int) - 1000000000000000000) = (N : Int) - 1000000000000000000 := by rw [IntKind.wrap_i64]; omega
    have hc3 : ¬ (2000000000000000000 : Int) < (N : Int) := by omega
    simp only [Nat.reduceMul, Nat.reduceSub, Nat.pow_zero, Nat.div_one]
    go_wp2_with fail
    go_region_held3 (fun w' => True) (trivial)
     (first | (go_at_call 304; refine (HKT.out _ (by exact HB.out.drew)).mono ?_; rintro e w3 ⟨rfl, hb3'⟩; have hb3 := undrew hb3'; clear hb3'))
    have HB3 := Lib.hid (HB.out.later hb3)
    clear hb3
    go_wp2_with fail
    go_ret3
    exact ⟨_, rfl, HX2.out, HB3.out⟩
theorem byteCells_take (s : ByteArray) (k : Nat) (h : k < s.size) : Go.Lib.byteCells (s.data.toList.take (k + 1)) = Go.Lib.byteCells (s.data.toList.take k) ++ [.int .u8 s[k].toNat] := by
 rw [byte_at s k h, Go.Lib.byteCells_append]
 rfl
set_option maxRecDepth 100000 in
set_option maxHeartbeats 8000000 in
theorem getString_any (v s : ByteArray) (r : List UInt8) (w : World) (hv : v.data.toList = s.data.toList ++ 0 :: 0 :: r) (hp : pureS s) (hz : v.size ≤ 1048576) :
 Calls Tryz.prog 258 #[.string v] w (TakePost v s r w) := by
 have hl : s.data.toList.length = s.size := by rw [Array.length_toList]; rfl
 have hsz : v.size = s.size + 2 + r.length := by
  have := congrArg List.length hv
  rw [List.length_append, hl, Array.length_toList, List.length_cons, List.length_cons] at this
  have h3 : v.data.size = v.size := rfl
  omega
 have hvk1 : ∀ k, k < s.size → k < v.size := fun k h => by omega
 have hv1 : s.size < v.size := by omega
 have hv2 : s.size + 1 < v.size := by omega
 have HAT : Hid (∀ k (h : k < s.size), v[k]'(hvk1 k h) = s[k]) := fun k h => str_at hv (hvk1 k h) (by
  rw [List.getElem?_append_left (by rw [hl]; exact h), Array.getElem?_toList]
  exact Array.getElem?_eq_getElem h)
 have HZ1 : Hid (v[s.size]'hv1 = 0) := str_at hv hv1 (by
  rw [List.getElem?_append_right (by rw [hl]; exact Nat.le_refl _), hl, Nat.sub_self]
  rfl)
 have HZ2 : Hid (v[s.size + 1]'hv2 = 0) := str_at hv hv2 (by
  rw [List.getElem?_append_right (by rw [hl]; omega), hl, show s.size + 1 - s.size = 1 by omega]
  rfl)
 have HX2 : Hid ((v.extract (s.size + 2) v.size).data.toList = r) := by
  unfold Hid
  have hv3 : v.data.toList = (s.data.toList ++ [0, 0]) ++ r := by rw [hv, List.append_assoc]; rfl
  rw [ext_list, hv3, List.drop_left' (by rw [List.length_append, hl]; rfl), List.take_of_length_le (by omega)]
 have HP : Hid (∀ k (h : k < s.size), s[k] ≠ 0) := fun k h e => hp (by rw [← e]; exact Array.getElem_mem_toList h)
 have HSL : Hid (s.data.toList.length = s.size) := hl
 have hs2 : s.size + 2 ≤ v.size := by omega
 clear hv hp hl hsz
 have HBL0 : Hid (Go.Lib.IsBuilder 264 5 w.heap.size w.heap.size (Go.Lib.byteCells []) (w.alloc (.cells #[.pointer none, .slice none 0 0] 264))) := .inl ⟨Nat.le_refl _, .slice none 0 0, heap_alloc_new _ _, World.ownsRow_nil _ _ _ _, by simp [Value.ownBlock]⟩
 go_enter Tryz.func258, Tryz.ntmps258
 go_wp2_with fail
 go_loopw [6] (fun i wr => ∃ k : Nat, k ≤ s.size ∧ i = .int .i64 k ∧ Hid (Go.Lib.IsBuilder 264 5 w.heap.size w.heap.size (Go.Lib.byteCells (s.data.toList.take k)) wr) ∧ Hid (Below w.heap.size w wr)) (fun i _ => s.size + 1 - (intOf i).toNat)
 case atStart => exact ⟨0, Nat.zero_le _, rfl, HBL0.out, Below.new _ _⟩
 case round =>
  obtain ⟨k, hk, rfl, HBL, HB⟩ := hrel
  have hszr := HB.out.size
  have hc1 : (k : Int) + 1 < (v.size : Int) := by omega
  have hvi : ((k : Int) + 1).toNat = k + 1 := by omega
  by_cases hlt : k < s.size
  · have hvk : k < v.size := hvk1 k hlt
    have hbb := HAT.out k hlt
    have hne := HP.out k hlt
    have HT := Lib.hid (byteCells_take s k hlt)
    rw [← hbb] at hne HT
    have hb3 : (((v[k]'hvk).toNat : Int) != (0 : Int)) = true := by
     have := byte_nz hne
     simpa [bne] using this
    have hlen : (Go.Lib.byteCells (s.data.toList.take k)).length + 1 ≤ 140737488355328 := by rw [Go.Lib.byteCells_length, List.length_take, HSL.out]; omega
    clear hbb hne HX2 HZ1 HZ2
    go_wp2_with fail
    refine (Tryz.B_WriteByte _ w.heap.size _ _ wr HBL.out hlen hszr).mono ?_
    rintro e w2 ⟨rfl, hbl2, hb2⟩
    have HB2 := Lib.hid (HB.out.trans hb2)
    have HBL2 : Hid (Go.Lib.IsBuilder 264 5 w.heap.size w.heap.size (Go.Lib.byteCells (s.data.toList.take (k + 1))) w2) := by
     unfold Hid
     rw [HT.out]
     exact .inr hbl2
    clear hb2 hbl2
    go_wp2_with fail
    go_roundw
    case rel => exact ⟨k + 1, by omega, by go_num, HBL2.out, HB2.out⟩
    case measure => simp [intOf]; omega
  · obtain rfl : k = s.size := by omega
    have hb3 : (((v[s.size]'hv1).toNat : Int) != (0 : Int)) = false := by rw [HZ1.out]; rfl
    have hb4 : (((v[s.size + 1]'hv2).toNat : Int) == (0 : Int)) = true := by rw [HZ2.out]; rfl
    have HE : Hid (s.data.toList.take s.size = s.data.toList) := List.take_of_length_le (by rw [HSL.out]; exact Nat.le_refl _)
    rw [HE.out] at HBL
    have HKS := Lib.hid (fun W (hW : Below w.heap.size wr W) (hbl : Go.Lib.IsBuilder 264 5 w.heap.size w.heap.size (Go.Lib.byteCells s.data.toList) W) => Tryz.B_String w.heap.size w.heap.size s.data.toList W hbl (Nat.le_trans hszr hW.size))
    have hvi2 : ((s.size : Int) + 2).toNat = s.size + 2 := by omega
    have hs2I : (s.size : Int) + 2 ≤ (v.size : Int) := by omega
    have hs0I : (0 : Int) ≤ (s.size : Int) + 2 := by omega
    have hwI : IntKind.i64.wrap ((s.size : Int) + 2) = (s.size : Int) + 2 := by rw [IntKind.wrap_i64]; omega
    clear HAT HP
    go_wp2_with fail
    go_region_held3 (fun w' => True) (trivial)
     (first | (go_at_call 299; refine (HKS.out _ (by exact (Below.refl _ _).drew) (by exact isb_later HBL.out (Below.refl _ _).drew)).mono ?_; rintro e w3 ⟨rfl, hb3⟩; have hb4 := HB.out.drew.trans hb3; clear hb3))
    have HB4 := Lib.hid hb4
    clear hb4
    go_wp2_with fail
    go_ret3
    refine ⟨v.extract (s.size + 2) v.size, ?_, HX2.out, HB4.out⟩
    rw [show Value.string s = .string ⟨s.data.toList.toArray⟩ from congrArg Value.string (str_back s).symm]
    rfl
end Go.Proofs.YtlicffeicmoifaaGreatDoor
namespace Go.Proofs.YtlicffeicmoifaaGreatDoor
open Go.RowKit
set_option linter.unusedVariables false
set_option maxRecDepth 100000 in
set_option maxHeartbeats 4000000 in
theorem GetSubs_put (v : ByteArray) (ss : List ByteArray) (w : World) (htab : tabT w) (hv : PutOf v ss) (hz : v.size ≤ 1048576) :
 Calls Tryz.prog 199 #[.string v] w (GetPost v w) := by
 obtain ⟨i0, hi, hz0, hz1, hz2⟩ := info_parts infoS
 have HGO := Lib.hid (getOk_of hv)
 have HPO := Lib.hid hv
 obtain ⟨hsb, hpu, rfl⟩ := hv
 have hsb2 := hsb
 unfold subsB at hsb
 rw [Bool.and_eq_true, decide_eq_true_eq, List.all_eq_true] at hsb
 obtain ⟨hn4, hall⟩ := hsb
 have HSB : Hid (∀ s ∈ ss, 0 < s.size ∧ s.size ≤ 24) := fun s hs => by
  have h := hall s hs
  unfold subB at h
  rw [Bool.and_eq_true, decide_eq_true_eq, decide_eq_true_eq] at h
  omega
 have HZ : Hid (∀ s ∈ ss, s.size ≤ 1048576) := fun s hs => by have := (HSB.out s hs).2; omega
 have HPU := Lib.hid hpu
 have HOK := Lib.hid hsb2
 have HDR : Hid (∀ k, k < ss.length → (ss.drop k).flatMap subE = subE (ss.getD k ByteArray.empty) ++ (ss.drop (k + 1)).flatMap subE) := fun k h => by
  rw [List.drop_eq_getElem_cons h, List.flatMap_cons, List.getD_eq_getElem?_getD, List.getElem?_eq_getElem h]
  rfl
 have HMEM : Hid (∀ k, k < ss.length → ss.getD k ByteArray.empty ∈ ss) := fun k h => Own.mem_of_getD ss k _ h
 have HPUT : Hid ((putE ss).data.toList = ss.flatMap subE) := putE_list ss
 have HT := Lib.hid htab
 generalize hN : ss.length = n at *
 have HLN := Lib.hid hN
 clear hall hsb2 hpu hN
 obtain ⟨W0, hW0⟩ : ∃ W0, W0 = w.alloc (.cells #[] 9) := ⟨_, rfl⟩
 have HU0 : Hid (Own.SubO W0 w.heap.size (.slice (some ⟨w.heap.size, 0, none⟩) 0 0) []) := by
  subst hW0
  exact World.ownsRow_lit (e := 9) (size := 1) w #[] 0 (Nat.le_refl _) (by omega) rfl
 have HB0 : Hid (Below w.heap.size w W0) := by subst hW0; exact Below.new _ _
 generalize hV : putE ss = V at *
 have HV := Lib.hid hV
 clear hV
 go_enter Tryz.func199, Tryz.ntmps199
 go_wp2_with fail
 rw [← hW0]
 clear hW0
 go_loopw [4, 5] (fun o l wr => ∃ (k : Nat) (L : ByteArray), k ≤ n ∧ l = .string L ∧ Hid (L.data.toList = (ss.drop k).flatMap subE) ∧ L.size ≤ 1048576 ∧ Hid (Own.SubO wr w.heap.size o (ss.take k)) ∧ Hid (Below w.heap.size w wr)) (fun o _ _ => n - slLen o)
 case atStart => exact ⟨0, V, Nat.zero_le _, rfl, HPUT.out, hz, HU0.out, HB0.out⟩
 case round =>
  obtain ⟨k, L, hk, rfl, HL, hLz, HU, HB⟩ := hrel
  have hszr := HB.out.size
  obtain ⟨S, cap, rfl, hcap, _⟩ := Own.SubO.strs HU.out
  have HTL : Hid ((ss.take k).length = k) := by unfold Hid; rw [List.length_take, HLN.out]; omega
  rw [HTL.out] at hcap HU ⊢
  by_cases hlt : k < n
  · have hls := HDR.out k hlt
    obtain ⟨c, r, hc1, _⟩ := subE_head (ss.getD k ByteArray.empty)
    have hne : L.toList.isEmpty = false := by
     rw [toList_data, HL.out, hls, hc1]
     rfl
    have hne2 : (!L.toList.isEmpty) = true := by rw [hne]; rfl
    have hk4 : (k : Int) ≤ 4 := by omega
    have hmem := HMEM.out k hlt
    have HSP := HPU.out _ hmem
    have HSZp := (HSB.out _ hmem).1
    have HTK : Hid (ss.take (k + 1) = ss.take k ++ [ss.getD k ByteArray.empty]) := by
     unfold Hid
     rw [List.take_succ_eq_append_getElem (by rw [HLN.out]; exact hlt), List.getD_eq_getElem?_getD, List.getElem?_eq_getElem (by rw [HLN.out]; exact hlt)]
     rfl
    have HSZ : Hid (((ss.drop (k + 1)).flatMap subE).length ≤ 1048576) := by
     unfold Hid
     have h2 := congrArg List.length (HL.out.trans hls)
     rw [List.length_append, Array.length_toList] at h2
     have h3 : L.data.size = L.size := rfl
     omega
    have hLl : L.data.toList.length = L.size := by rw [Array.length_toList]; rfl
    have hsel : L.size = (subE (ss.getD k ByteArray.empty)).length + ((ss.drop (k + 1)).flatMap subE).length := by rw [← hLl, HL.out, hls, List.length_append]
    have hv0 : 0 < L.size := by
     have h2 := congrArg List.length hc1
     rw [List.length_cons] at h2
     omega
    have hx1 : (L.extract 1 L.size).size ≤ 1048576 := by rw [ByteArray.size_extract]; omega
    have hLs := HL.out.trans hls
    clear hmem
    generalize hs0 : ss.getD k ByteArray.empty = s at *
    generalize hD : (ss.drop (k + 1)).flatMap subE = D at *
    have HD := Lib.hid hD
    clear hD hs0
    by_cases hcn : canonB s = true
    · have hse : subE s = 1 :: be8 (encN s) := by unfold subE; rw [if_pos hcn]
      obtain ⟨hn1, hn2, hn3⟩ := encN_bd s
      have hb0 : L[0]'hv0 = 1 := str_at hLs hv0 (by rw [hse]; rfl)
      have hb1 : (((L[0]'hv0).toNat : Int) == (1 : Int)) = true := by rw [hb0]; rfl
      have HK1 := Lib.hid (fun W (hW : Below w.heap.size w W) => getNumber_any (L.extract 1 L.size) (encN s) D W (tab_later HT.out hW) (by
       rw [ext_list, hLs, hse, List.take_of_length_le (by
        have h2 := congrArg List.length (hLs.trans (congrArg (· ++ D) hse))
        rw [List.length_drop]
        rw [hLl] at h2
        omega)]
       rfl) hn1 hn2 hx1)
      have HTX : Hid ((⟨(numText ((encN s : Int) - 1000000000000000000)).toArray⟩ : ByteArray) = s) := by
       unfold Hid
       apply str_ext
       have hc2 := hcn
       unfold canonB at hc2
       rw [decide_eq_true_eq] at hc2
       rw [show (encN s : Int) - 1000000000000000000 = numS s.data.toList by omega]
       simpa using hc2
      rw [HTX.out] at HK1
      have h1L : (1 : Int) ≤ (L.size : Int) := by omega
      clear hls hc1 hLl hsel hLs hb0 hse hn1 hn2 hn3 hcn 
      go_wp2_with fail
      refine (HK1.out _ HB.out).mono ?_
      rintro e w1 ⟨t, rfl, ht, hb1'⟩
      have HB1 := Lib.hid (HB.out.later hb1')
      have HT := Lib.hid ht
      have hU1 := Own.own_later HU.out hb1'
      rw [HTL.out] at hU1
      have HRr : Hid (∀ o, (w1.alloc o).ownsRow w.heap.size 9 1 (.slice S k cap) k ((ss.take k).map Value.string)) := fun o => Own.own_later hU1 (Below.new w1 o)
      have hsz1 := HB1.out.size
      have htz : t.size ≤ 1048576 := by
       have h2 := congrArg List.length ht
       rw [Array.length_toList] at h2
       have h3 : t.data.size = t.size := rfl
       have := HSZ.out
       omega
      clear hb1' ht hU1 hne hne2
      go_wp2_with (at_builtin; refine wpList_append_own _ rfl (.tmp 39) (.tmp 41) 35 rfl w.heap.size 9 i0 _ 1 16 Tryz.underlying35 hi hz0 hz1 hz2 rfl (by decide) _ k _ rfl (HRr.out _) ⟨_, 0, none⟩ 1 1 [.string s] rfl rfl ?c1 ?c2 ?c3 ?c4 ?c5 ?_)
      case c1 => exact cell_one_new _ _ _
      case c2 => simp [Value.oneCell']
      case c3 => unfold maxLen; omega
      case c4 => omega
      case c5 => simp; omega
      intro v4 w4 hown4 hg4 _
      rw [← List.map_take] at hown4
      have HU4 := Lib.hid (sub_appv' hown4 HTL.out.symm)
      rw [← HTK.out] at HU4
      have HB4 : Hid (Below w.heap.size w w4) := (HB1.out.later (Below.new _ _)).grown hg4 (by simp; omega) (fun g hg => ((HRr.out (.cells #[] 0)).lt g hg).1)
      obtain ⟨S4, cap4, e4, _, _⟩ := Own.SubO.strs HU4.out
      have hl4 : (ss.take (k + 1)).length = k + 1 := by rw [List.length_take, HLN.out]; omega
      rw [hl4] at e4
      subst e4
      clear hown4 hg4
      go_wp2_with fail
      go_roundw
      case rel => exact ⟨k + 1, t, by omega, rfl, by unfold Hid; rw [HD.out]; exact HT.out, htz, HU4.out, HB4.out⟩
      case measure => simp [slLen]; omega
    · have hse : subE s = 2 :: (s.data.toList ++ [0, 0]) := by unfold subE; rw [if_neg hcn]
      have hb0 : L[0]'hv0 = 2 := str_at hLs hv0 (by rw [hse]; rfl)
      have hb1 : (((L[0]'hv0).toNat : Int) == (1 : Int)) = false := by rw [hb0]; rfl
      have hb2 : (((L[0]'hv0).toNat : Int) == (2 : Int)) = true := by rw [hb0]; rfl
      have HK1 := Lib.hid (fun W => getString_any (L.extract 1 L.size) s D W (by
       rw [ext_list, hLs, hse, List.take_of_length_le (by
        have h2 := congrArg List.length (hLs.trans (congrArg (· ++ D) hse))
        rw [List.length_drop]
        rw [hLl] at h2
        omega)]
       simp) HSP hx1)
      have h1L : (1 : Int) ≤ (L.size : Int) := by omega
      clear hls hc1 hLl hsel hLs hb0 hse hcn
      go_wp2_with fail
      refine (HK1.out _).mono ?_
      rintro e w1 ⟨t, rfl, ht, hb1'⟩
      have HB1 := Lib.hid (HB.out.later hb1')
      have HT := Lib.hid ht
      have hU1 := Own.own_later HU.out hb1'
      rw [HTL.out] at hU1
      have HRr : Hid (∀ o, (w1.alloc o).ownsRow w.heap.size 9 1 (.slice S k cap) k ((ss.take k).map Value.string)) := fun o => Own.own_later hU1 (Below.new w1 o)
      have hsz1 := HB1.out.size
      have htz : t.size ≤ 1048576 := by
       have h2 := congrArg List.length ht
       rw [Array.length_toList] at h2
       have h3 : t.data.size = t.size := rfl
       have := HSZ.out
       omega
      clear hb1' ht hU1 hne hne2
      go_wp2_with (at_builtin; refine wpList_append_own _ rfl (.tmp 39) (.tmp 41) 35 rfl w.heap.size 9 i0 _ 1 16 Tryz.underlying35 hi hz0 hz1 hz2 rfl (by decide) _ k _ rfl (HRr.out _) ⟨_, 0, none⟩ 1 1 [.string s] rfl rfl ?c1 ?c2 ?c3 ?c4 ?c5 ?_)
      case c1 => exact cell_one_new _ _ _
      case c2 => simp [Value.oneCell']
      case c3 => unfold maxLen; omega
      case c4 => omega
      case c5 => simp; omega
      intro v4 w4 hown4 hg4 _
      rw [← List.map_take] at hown4
      have HU4 := Lib.hid (sub_appv' hown4 HTL.out.symm)
      rw [← HTK.out] at HU4
      have HB4 : Hid (Below w.heap.size w w4) := (HB1.out.later (Below.new _ _)).grown hg4 (by simp; omega) (fun g hg => ((HRr.out (.cells #[] 0)).lt g hg).1)
      obtain ⟨S4, cap4, e4, _, _⟩ := Own.SubO.strs HU4.out
      have hl4 : (ss.take (k + 1)).length = k + 1 := by rw [List.length_take, HLN.out]; omega
      rw [hl4] at e4
      subst e4
      clear hown4 hg4
      go_wp2_with fail
      go_roundw
      case rel => exact ⟨k + 1, t, by omega, rfl, by unfold Hid; rw [HD.out]; exact HT.out, htz, HU4.out, HB4.out⟩
      case measure => simp [slLen]; omega
  · obtain rfl : k = n := by omega
    have hemp : L.toList.isEmpty = true := by
     rw [toList_data, HL.out, List.drop_of_length_le (by rw [HLN.out]; exact Nat.le_refl _)]
     rfl
    have hemp2 : (!L.toList.isEmpty) = false := by rw [hemp]; rfl
    have HTA : Hid (ss.take k = ss) := List.take_of_length_le (by rw [HLN.out]; exact Nat.le_refl _)
    rw [HTA.out] at HU
    obtain ⟨S', cap', e', hcap', hS⟩ := Own.SubO.strs HU.out
    rw [HLN.out] at e' hS
    injection e' with e1 _ e3
    subst e1 e3
    have HK1 := Lib.hid (fun W (hW : Below wr.heap.size wr W) => SubsOk_any S k cap ss W (hS.later hW) (by omega) HZ.out)
    have HK2 := Lib.hid (fun W (hW : Below wr.heap.size wr W) => PutSubs_any S k cap ss W (hS.later hW) HPU.out HOK.out (tab_later HT.out (HB.out.later hW)))
    rw [HOK.out] at HK1
    have HV2 : Hid ((⟨(ss.flatMap subE).toArray⟩ : ByteArray) = V) := HV.out
    rw [HV2.out] at HK2
    clear hS
    go_wp2_with fail
    refine (HK1.out _ (Below.refl _ _)).mono ?_
    rintro e w1 ⟨rfl, rfl⟩
    go_wp2_with fail
    refine (HK2.out _ (Below.refl _ _)).mono ?_
    rintro e w2 ⟨rfl, hb2⟩
    have HB2 := Lib.hid hb2
    clear hb2
    go_wp2_with fail
    go_ret2
    refine ⟨_, ss, ?_, fun _ => HPO.out, Own.own_later HU.out HB2.out, HB.out.later HB2.out⟩
    rw [HGO.out]
    rfl
set_option maxRecDepth 100000 in
set_option maxHeartbeats 4000000 in
theorem GetSubs_bad (v : ByteArray) (w : World) (hv : headBad v) (hz : v.size ≤ 1048576) :
 Calls Tryz.prog 199 #[.string v] w (GetPost v w) := by
 have HGO := Lib.hid (getOk_bad hv)
 have hbad := hv
 obtain ⟨c, r, he, h1, h2⟩ := hbad
 have hv0 : 0 < v.size := by
  have := congrArg List.length he
  rw [Array.length_toList] at this
  show 0 < v.data.size
  rw [this]; simp
 have h0 : v[0]'hv0 = c := str_at he hv0 rfl
 have hb1 : (((v[0]'hv0).toNat : Int) == (1 : Int)) = false := by rw [h0]; exact beq_eq_false_iff_ne.2 (fun e => h1 (UInt8.toNat_inj.1 (by rw [show (1 : UInt8).toNat = 1 from rfl]; omega)))
 have hb2 : (((v[0]'hv0).toNat : Int) == (2 : Int)) = false := by rw [h0]; exact beq_eq_false_iff_ne.2 (fun e => h2 (UInt8.toNat_inj.1 (by rw [show (2 : UInt8).toNat = 2 from rfl]; omega)))
 have hne : v.toList.isEmpty = false := by
  obtain ⟨c, r, he, _⟩ := hv
  rw [toList_data, he]
  rfl
 have hne2 : (!v.toList.isEmpty) = true := by rw [hne]; rfl
 clear hv he h0 h1 h2
 go_enter Tryz.func199, Tryz.ntmps199
 go_wp2_with fail
 go_loopw [4, 5] (fun o l wr => l = .string v ∧ o = .slice (some ⟨w.heap.size, 0, none⟩) 0 0 ∧ Hid (Below w.heap.size w wr)) (fun _ _ _ => 0)
 case atStart => exact ⟨rfl, rfl, Below.new _ _⟩
 case round =>
  obtain ⟨rfl, rfl, HB⟩ := hrel
  go_wp2_with fail
  go_ret2
  refine ⟨_, [], ?_, fun h => absurd (HGO.out.symm.trans h) (by decide), Own.sub_nil _ _, HB.out⟩
  rw [HGO.out]
  rfl
theorem GetSubs_any (v : ByteArray) (w : World) (htab : tabT w) (hv : okV v) (hz : v.size ≤ 1048576) :
 Calls Tryz.prog 199 #[.string v] w (GetPost v w) := by
 rcases hv with ⟨ss, h⟩ | h
 · exact GetSubs_put v ss w htab h hz
 · exact GetSubs_bad v w h hz
end Go.Proofs.YtlicffeicmoifaaGreatDoor
