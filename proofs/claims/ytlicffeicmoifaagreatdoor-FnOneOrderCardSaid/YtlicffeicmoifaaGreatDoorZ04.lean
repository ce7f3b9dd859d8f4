import Derived.Test.YtlicffeicmoifaaGreatDoorZ02
import Derived.Test.YtlicffeicmoifaaGreatDoorZ03
import Derived.Lib.AppendIntMem
import Derived.Shelf.Unicode.PredsPay
set_option linter.unusedSimpArgs false
namespace Go.Proofs.YtlicffeicmoifaaGreatDoor
open Go.RowKit
set_option maxHeartbeats 400000 in
theorem within_any (n a b : Int) (w : World) :
 Calls Tryz.prog 129 #[.int .i64 n, .int .i64 a, .int .i64 b] w fun e w' => e = .returned (.bool (decide (a ≤ n) && decide (n ≤ b))) ∧ w = w' := by
 by_cases h1 : a ≤ n
 · by_cases h2 : n ≤ b
   all_goals
    go_enter Tryz.func129, Tryz.ntmps129
    go_wp2
    go_ret
    exact ⟨ret_bool (by first | (simp; done) | (simp; omega) | (rw [Bool.eq_iff_iff]; simp; omega)), rfl⟩
 · go_enter Tryz.func129, Tryz.ntmps129
   go_wp2
   go_ret
   exact ⟨ret_bool (by first | (simp; done) | (simp; omega) | (rw [Bool.eq_iff_iff]; simp; omega)), rfl⟩
def isNumB (n : Int) : Bool := decide (-999999999999999999 ≤ n) && decide (n ≤ 999999999999999999)
set_option maxHeartbeats 400000 in
theorem isNum_any (n : Int) (w : World) :
 Calls Tryz.prog 328 #[.int .i64 n] w fun e w' => e = .returned (.bool (isNumB n)) ∧ w = w' := by
 go_enter Tryz.func328, Tryz.ntmps328
 go_wp2_with fail
 refine (within_any _ _ _ _).mono ?_
 rintro e w' ⟨rfl, rfl⟩
 go_wp2_with fail
 go_ret
 exact ⟨ret_bool rfl, rfl⟩
def tabT (w : World) : Prop := Lib.TabIs Tryz.prog w "internal/strconv.uint64pow10" .u64 Lib.pow10Tab
theorem tab_later {w w' : World} (h : tabT w) (hb : Below w.heap.size w w') : tabT w' := TabIs_below (g := 1) (by kernel_rfl) h hb
theorem itoa_nat (n : Nat) : Lib.itoa (n : Int) = Lib.decDigits n := by
 unfold Lib.itoa
 rw [if_neg (by omega)]
 rfl
theorem dec_len (n : Nat) (h : n ≤ 999999999999999999) : (Lib.decDigits n).length ≤ 20 := by
 by_cases h0 : n = 0
 · subst h0; rw [Lib.decDigits_one (by omega)]; simp
 · have h1 := decL_len 20 n (by have : (10 : Nat) ^ 20 = 100000000000000000000 := by decide
                                omega)
   unfold decL at h1
   rw [if_neg h0] at h1
   exact h1
theorem dec_pos (n : Nat) : 1 ≤ (Lib.decDigits n).length := by
 rw [Lib.decDigits]
 split <;> simp
theorem decL_pos (n : Nat) (h : 0 < n) : decL n = Lib.decDigits n := by unfold decL; rw [if_neg (by omega)]
theorem decL_zero : decL 0 = [] := rfl
theorem trimB_len {n : Nat} (l : List UInt8) (h : l.length ≤ n) : (Lib.trimRightB l 48).length ≤ n := by
 have := trimZ_len l
 unfold trimZ at this
 rw [Lib.trimRightS_one] at this
 omega
theorem frac_list (Y : ByteArray) (r : Nat) (h : Y = ⟨(Lib.decDigits (1000000 + r)).toArray⟩) : Lib.trimRightB (Y.extract 1 Y.size).data.toList 48 = trimZ ((decL (1000000 + r)).drop 1) := by
 rw [ext_drop, decL_pos _ (by omega)]
 unfold trimZ
 rw [Lib.trimRightS_one, h]
set_option maxRecDepth 100000 in
set_option maxHeartbeats 1000000 in
theorem NumText_pr (m : Nat) (w : World) (htab : tabT w) (h1 : 0 < m) (h2 : m ≤ 999999999999999999) (hq : m < 1000000) (hr : 0 < m % 1000000) :
 Calls Tryz.prog 304 #[.int .i64 (m : Int)] w fun e w' => e = .returned (.string ⟨(absText m).toArray⟩) ∧ Below w.heap.size w w' := by
 have hn : isNumB (m : Int) = true := by simp [isNumB]; omega
 have HK := Lib.hid (fun W => isNum_any (m : Int) W)
 rw [hn] at HK
 clear hn
 have HT := Lib.hid htab
 clear htab
 obtain ⟨q, hqd⟩ : ∃ q : Nat, q = m / 1000000 := ⟨_, rfl⟩
 obtain ⟨r, hrd⟩ : ∃ r : Nat, r = m % 1000000 := ⟨_, rfl⟩
 have e1 : (m : Int) / 1000000 = q := by omega
 have e2 : (m : Int) % 1000000 = r := by omega
 have HQ := Lib.hid hqd
 have HRD := Lib.hid hrd
 have hr9 : r < 1000000 := by omega
 have hm9 : (m : Int) ≤ 999999999999999999 := by omega
 have hm0 : (0 : Int) < m := by omega
 have hq9 : (q : Int) ≤ 999999999999 := by omega
 have hq' : decide ((1000000 : Int) ≤ (m : Int)) = false := by rw [decide_eq_false_iff_not]; omega
 have hr' : (0 : Int) < r := by omega
 have HQ0 : Hid (m / 1000000 = 0) := by unfold Hid; omega
 have hrp : 0 < r := by omega
 have HR0 : Hid (m % 1000000 = r) := hrd.symm
 have HM0 : Hid (m ≠ 0) := by unfold Hid; omega
 clear hqd hrd h2 h1 hq hr
 go_enter Tryz.func304, Tryz.ntmps304
 go_wp2_with fail
 refine (HK.out _).mono ?_
 rintro e w' ⟨rfl, rfl⟩
 go_wp2_with fail
 have HT1 := Lib.hid HT.out
 have HB1 := Lib.hid (Below.refl w.heap.size w)
 have hF2 := Tryz.strconv_FormatInt_10 (1000000 + (r : Int)) (by omega) (by omega) w HT1.out
 refine hF2.mono ?_
 rintro e w2 ⟨rfl, k2, os2, hw2⟩
 have hB2 : Below w.heap.size w w2 := by rw [hw2]; exact Lib.below_grow _ _ (Nat.le_refl _) _ _
 have HB2 := Lib.hid (HB1.out.later hB2)
 clear hB2 hw2 hF2
 rw [show (1000000 + (r : Int)) = ((1000000 + r : Nat) : Int) from by omega, itoa_nat]
 obtain ⟨Y, hY⟩ : ∃ Y : ByteArray, Y = ⟨(Lib.decDigits (1000000 + r)).toArray⟩ := ⟨_, rfl⟩
 rw [← hY]
 have hYs : Y.size ≤ 20 := by rw [Lib.size_eq, hY]; exact dec_len _ (by omega)
 have hY1 : 1 ≤ Y.size := by rw [Lib.size_eq, hY]; exact dec_pos _
 have HY := Lib.hid hY
 clear hY
 go_wp2_with fail
 refine (Tryz.strings_TrimRight_one _ 48 (by decide) _ (by rw [ByteArray.size_extract]; omega)).mono ?_
 rintro e w' ⟨rfl, rfl⟩
 obtain ⟨Z, hZ⟩ : ∃ Z : ByteArray, Z = ⟨(Lib.trimRightB (Y.extract 1 Y.size).data.toList 48).toArray⟩ := ⟨_, rfl⟩
 rw [← hZ]
 have hZs : Z.size ≤ 20 := by rw [Lib.size_eq, hZ]; exact trimB_len _ (by rw [← Lib.size_eq, ByteArray.size_extract]; omega)
 have HZ : Hid (Z.data.toList = trimZ ((decL (1000000 + r)).drop 1)) := by unfold Hid; rw [hZ]; exact frac_list Y r HY.out
 clear hZ
 go_wp2_with fail
 go_ret
 refine ⟨ret_stn ?_, HB2.out⟩
 apply ByteArray.ext
 apply Array.toList_inj.1
 have hA : absText m = [] ++ 46 :: trimZ ((decL (1000000 + r)).drop 1) := by
  unfold absText fracT
  rw [if_neg HM0.out, HR0.out, if_neg (by omega), HQ0.out, decL_zero]
 rw [hA]
 rw [← HZ.out]
 simp
set_option maxRecDepth 100000 in
set_option maxHeartbeats 1000000 in
theorem NumText_pq (m : Nat) (w : World) (htab : tabT w) (h1 : 0 < m) (h2 : m ≤ 999999999999999999) (hq : 1000000 ≤ m) (hr : m % 1000000 = 0) :
 Calls Tryz.prog 304 #[.int .i64 (m : Int)] w fun e w' => e = .returned (.string ⟨(absText m).toArray⟩) ∧ Below w.heap.size w w' := by
 have hn : isNumB (m : Int) = true := by simp [isNumB]; omega
 have HK := Lib.hid (fun W => isNum_any (m : Int) W)
 rw [hn] at HK
 clear hn
 have HT := Lib.hid htab
 clear htab
 obtain ⟨q, hqd⟩ : ∃ q : Nat, q = m / 1000000 := ⟨_, rfl⟩
 obtain ⟨r, hrd⟩ : ∃ r : Nat, r = m % 1000000 := ⟨_, rfl⟩
 have e1 : (m : Int) / 1000000 = q := by omega
 have e2 : (m : Int) % 1000000 = r := by omega
 have HQ := Lib.hid hqd
 have HRD := Lib.hid hrd
 have hr9 : r < 1000000 := by omega
 have hm9 : (m : Int) ≤ 999999999999999999 := by omega
 have hm0 : (0 : Int) < m := by omega
 have hq9 : (q : Int) ≤ 999999999999 := by omega
 have hq' : (1000000 : Int) ≤ m := by omega
 have hr' : ¬ (0 : Int) < r := by omega
 have hqp : 0 < q := by omega
 have HR0 : Hid (m % 1000000 = r) := hrd.symm
 have HM0 : Hid (m ≠ 0) := by unfold Hid; omega
 clear hqd hrd h2 h1 hq hr
 go_enter Tryz.func304, Tryz.ntmps304
 go_wp2_with fail
 refine (HK.out _).mono ?_
 rintro e w' ⟨rfl, rfl⟩
 go_wp2_with fail
 have hF1 := Tryz.strconv_FormatInt_10 (q : Int) (by omega) (by omega) w HT.out
 refine hF1.mono ?_
 rintro e w1 ⟨rfl, k1, os1, hw1⟩
 have hB1 : Below w.heap.size w w1 := by rw [hw1]; exact Lib.below_grow _ _ (Nat.le_refl _) _ _
 have HT1 := Lib.hid (tab_later HT.out hB1)
 have HB1 := Lib.hid hB1
 clear hB1 hw1 HT hF1
 rw [itoa_nat]
 obtain ⟨X, hX⟩ : ∃ X : ByteArray, X = ⟨(Lib.decDigits q).toArray⟩ := ⟨_, rfl⟩
 rw [← hX]
 have hXs : X.size ≤ 20 := by rw [Lib.size_eq, hX]; exact dec_len q (by omega)
 have HX := Lib.hid hX
 clear hX
 go_wp2_with fail
 go_ret
 refine ⟨ret_stn ?_, HB1.out⟩
 apply ByteArray.ext
 apply Array.toList_inj.1
 have hA : absText m = Lib.decDigits q ++ [] := by
  unfold absText fracT
  rw [if_neg HM0.out, HR0.out, if_pos (by omega), ← HQ.out, decL_pos q (by omega)]
 rw [hA]
 have hX := HX.out
 subst hX
 simp
set_option maxRecDepth 100000 in
set_option maxHeartbeats 1000000 in
theorem NumText_pqr (m : Nat) (w : World) (htab : tabT w) (h1 : 0 < m) (h2 : m ≤ 999999999999999999) (hq : 1000000 ≤ m) (hr : 0 < m % 1000000) :
 Calls Tryz.prog 304 #[.int .i64 (m : Int)] w fun e w' => e = .returned (.string ⟨(absText m).toArray⟩) ∧ Below w.heap.size w w' := by
 have hn : isNumB (m : Int) = true := by simp [isNumB]; omega
 have HK := Lib.hid (fun W => isNum_any (m : Int) W)
 rw [hn] at HK
 clear hn
 have HT := Lib.hid htab
 clear htab
 obtain ⟨q, hqd⟩ : ∃ q : Nat, q = m / 1000000 := ⟨_, rfl⟩
 obtain ⟨r, hrd⟩ : ∃ r : Nat, r = m % 1000000 := ⟨_, rfl⟩
 have e1 : (m : Int) / 1000000 = q := by omega
 have e2 : (m : Int) % 1000000 = r := by omega
 have HQ := Lib.hid hqd
 have HRD := Lib.hid hrd
 have hr9 : r < 1000000 := by omega
 have hm9 : (m : Int) ≤ 999999999999999999 := by omega
 have hm0 : (0 : Int) < m := by omega
 have hq9 : (q : Int) ≤ 999999999999 := by omega
 have hq' : (1000000 : Int) ≤ m := by omega
 have hr' : (0 : Int) < r := by omega
 have hqp : 0 < q := by omega
 have hrp : 0 < r := by omega
 have HR0 : Hid (m % 1000000 = r) := hrd.symm
 have HM0 : Hid (m ≠ 0) := by unfold Hid; omega
 clear hqd hrd h2 h1 hq hr
 go_enter Tryz.func304, Tryz.ntmps304
 go_wp2_with fail
 refine (HK.out _).mono ?_
 rintro e w' ⟨rfl, rfl⟩
 go_wp2_with fail
 have hF1 := Tryz.strconv_FormatInt_10 (q : Int) (by omega) (by omega) w HT.out
 refine hF1.mono ?_
 rintro e w1 ⟨rfl, k1, os1, hw1⟩
 have hB1 : Below w.heap.size w w1 := by rw [hw1]; exact Lib.below_grow _ _ (Nat.le_refl _) _ _
 have HT1 := Lib.hid (tab_later HT.out hB1)
 have HB1 := Lib.hid hB1
 clear hB1 hw1 HT hF1
 rw [itoa_nat]
 obtain ⟨X, hX⟩ : ∃ X : ByteArray, X = ⟨(Lib.decDigits q).toArray⟩ := ⟨_, rfl⟩
 rw [← hX]
 have hXs : X.size ≤ 20 := by rw [Lib.size_eq, hX]; exact dec_len q (by omega)
 have HX := Lib.hid hX
 clear hX
 go_wp2_with fail
 have hF2 := Tryz.strconv_FormatInt_10 (1000000 + (r : Int)) (by omega) (by omega) w1 HT1.out
 refine hF2.mono ?_
 rintro e w2 ⟨rfl, k2, os2, hw2⟩
 have hB2 : Below w1.heap.size w1 w2 := by rw [hw2]; exact Lib.below_grow _ _ (Nat.le_refl _) _ _
 have HB2 := Lib.hid (HB1.out.later hB2)
 clear hB2 hw2 hF2
 rw [show (1000000 + (r : Int)) = ((1000000 + r : Nat) : Int) from by omega, itoa_nat]
 obtain ⟨Y, hY⟩ : ∃ Y : ByteArray, Y = ⟨(Lib.decDigits (1000000 + r)).toArray⟩ := ⟨_, rfl⟩
 rw [← hY]
 have hYs : Y.size ≤ 20 := by rw [Lib.size_eq, hY]; exact dec_len _ (by omega)
 have hY1 : 1 ≤ Y.size := by rw [Lib.size_eq, hY]; exact dec_pos _
 have HY := Lib.hid hY
 clear hY
 go_wp2_with fail
 refine (Tryz.strings_TrimRight_one _ 48 (by decide) _ (by rw [ByteArray.size_extract]; omega)).mono ?_
 rintro e w' ⟨rfl, rfl⟩
 obtain ⟨Z, hZ⟩ : ∃ Z : ByteArray, Z = ⟨(Lib.trimRightB (Y.extract 1 Y.size).data.toList 48).toArray⟩ := ⟨_, rfl⟩
 rw [← hZ]
 have hZs : Z.size ≤ 20 := by rw [Lib.size_eq, hZ]; exact trimB_len _ (by rw [← Lib.size_eq, ByteArray.size_extract]; omega)
 have HZ : Hid (Z.data.toList = trimZ ((decL (1000000 + r)).drop 1)) := by unfold Hid; rw [hZ]; exact frac_list Y r HY.out
 clear hZ
 go_wp2_with fail
 go_ret
 refine ⟨ret_stn ?_, HB2.out⟩
 apply ByteArray.ext
 apply Array.toList_inj.1
 have hA : absText m = Lib.decDigits q ++ 46 :: trimZ ((decL (1000000 + r)).drop 1) := by
  unfold absText fracT
  rw [if_neg HM0.out, HR0.out, if_neg (by omega), ← HQ.out, decL_pos q (by omega)]
 rw [hA]
 rw [← HZ.out]
 have hX := HX.out
 subst hX
 simp
set_option maxRecDepth 100000 in
set_option maxHeartbeats 1000000 in
theorem NumText_nr (m : Nat) (w : World) (htab : tabT w) (h1 : 0 < m) (h2 : m ≤ 999999999999999999) (hq : m < 1000000) (hr : 0 < m % 1000000) :
 Calls Tryz.prog 304 #[.int .i64 (-(m : Int))] w fun e w' => e = .returned (.string ⟨(45 :: absText m).toArray⟩) ∧ Below w.heap.size w w' := by
 have hn : isNumB (-(m : Int)) = true := by simp [isNumB]; omega
 have HK := Lib.hid (fun W => isNum_any (-(m : Int)) W)
 rw [hn] at HK
 clear hn
 have HT := Lib.hid htab
 clear htab
 obtain ⟨q, hqd⟩ : ∃ q : Nat, q = m / 1000000 := ⟨_, rfl⟩
 obtain ⟨r, hrd⟩ : ∃ r : Nat, r = m % 1000000 := ⟨_, rfl⟩
 have e1 : (m : Int) / 1000000 = q := by omega
 have e2 : (m : Int) % 1000000 = r := by omega
 have HQ := Lib.hid hqd
 have HRD := Lib.hid hrd
 have hr9 : r < 1000000 := by omega
 have hm9 : (m : Int) ≤ 999999999999999999 := by omega
 have hm0 : (0 : Int) < m := by omega
 have hq9 : (q : Int) ≤ 999999999999 := by omega
 have hq' : decide ((1000000 : Int) ≤ (m : Int)) = false := by rw [decide_eq_false_iff_not]; omega
 have hr' : (0 : Int) < r := by omega
 have HQ0 : Hid (m / 1000000 = 0) := by unfold Hid; omega
 have hrp : 0 < r := by omega
 have HR0 : Hid (m % 1000000 = r) := hrd.symm
 have HM0 : Hid (m ≠ 0) := by unfold Hid; omega
 clear hqd hrd h2 h1 hq hr
 go_enter Tryz.func304, Tryz.ntmps304
 go_wp2_with fail
 refine (HK.out _).mono ?_
 rintro e w' ⟨rfl, rfl⟩
 go_wp2_with fail
 have HT1 := Lib.hid HT.out
 have HB1 := Lib.hid (Below.refl w.heap.size w)
 have hF2 := Tryz.strconv_FormatInt_10 (1000000 + (r : Int)) (by omega) (by omega) w HT1.out
 refine hF2.mono ?_
 rintro e w2 ⟨rfl, k2, os2, hw2⟩
 have hB2 : Below w.heap.size w w2 := by rw [hw2]; exact Lib.below_grow _ _ (Nat.le_refl _) _ _
 have HB2 := Lib.hid (HB1.out.later hB2)
 clear hB2 hw2 hF2
 rw [show (1000000 + (r : Int)) = ((1000000 + r : Nat) : Int) from by omega, itoa_nat]
 obtain ⟨Y, hY⟩ : ∃ Y : ByteArray, Y = ⟨(Lib.decDigits (1000000 + r)).toArray⟩ := ⟨_, rfl⟩
 rw [← hY]
 have hYs : Y.size ≤ 20 := by rw [Lib.size_eq, hY]; exact dec_len _ (by omega)
 have hY1 : 1 ≤ Y.size := by rw [Lib.size_eq, hY]; exact dec_pos _
 have HY := Lib.hid hY
 clear hY
 go_wp2_with fail
 refine (Tryz.strings_TrimRight_one _ 48 (by decide) _ (by rw [ByteArray.size_extract]; omega)).mono ?_
 rintro e w' ⟨rfl, rfl⟩
 obtain ⟨Z, hZ⟩ : ∃ Z : ByteArray, Z = ⟨(Lib.trimRightB (Y.extract 1 Y.size).data.toList 48).toArray⟩ := ⟨_, rfl⟩
 rw [← hZ]
 have hZs : Z.size ≤ 20 := by rw [Lib.size_eq, hZ]; exact trimB_len _ (by rw [← Lib.size_eq, ByteArray.size_extract]; omega)
 have HZ : Hid (Z.data.toList = trimZ ((decL (1000000 + r)).drop 1)) := by unfold Hid; rw [hZ]; exact frac_list Y r HY.out
 clear hZ
 go_wp2_with fail
 go_ret
 refine ⟨ret_stn ?_, HB2.out⟩
 apply ByteArray.ext
 apply Array.toList_inj.1
 have hA : absText m = [] ++ 46 :: trimZ ((decL (1000000 + r)).drop 1) := by
  unfold absText fracT
  rw [if_neg HM0.out, HR0.out, if_neg (by omega), HQ0.out, decL_zero]
 rw [hA]
 rw [← HZ.out]
 simp
set_option maxRecDepth 100000 in
set_option maxHeartbeats 1000000 in
theorem NumText_nq (m : Nat) (w : World) (htab : tabT w) (h1 : 0 < m) (h2 : m ≤ 999999999999999999) (hq : 1000000 ≤ m) (hr : m % 1000000 = 0) :
 Calls Tryz.prog 304 #[.int .i64 (-(m : Int))] w fun e w' => e = .returned (.string ⟨(45 :: absText m).toArray⟩) ∧ Below w.heap.size w w' := by
 have hn : isNumB (-(m : Int)) = true := by simp [isNumB]; omega
 have HK := Lib.hid (fun W => isNum_any (-(m : Int)) W)
 rw [hn] at HK
 clear hn
 have HT := Lib.hid htab
 clear htab
 obtain ⟨q, hqd⟩ : ∃ q : Nat, q = m / 1000000 := ⟨_, rfl⟩
 obtain ⟨r, hrd⟩ : ∃ r : Nat, r = m % 1000000 := ⟨_, rfl⟩
 have e1 : (m : Int) / 1000000 = q := by omega
 have e2 : (m : Int) % 1000000 = r := by omega
 have HQ := Lib.hid hqd
 have HRD := Lib.hid hrd
 have hr9 : r < 1000000 := by omega
 have hm9 : (m : Int) ≤ 999999999999999999 := by omega
 have hm0 : (0 : Int) < m := by omega
 have hq9 : (q : Int) ≤ 999999999999 := by omega
 have hq' : (1000000 : Int) ≤ m := by omega
 have hr' : ¬ (0 : Int) < r := by omega
 have hqp : 0 < q := by omega
 have HR0 : Hid (m % 1000000 = r) := hrd.symm
 have HM0 : Hid (m ≠ 0) := by unfold Hid; omega
 clear hqd hrd h2 h1 hq hr
 go_enter Tryz.func304, Tryz.ntmps304
 go_wp2_with fail
 refine (HK.out _).mono ?_
 rintro e w' ⟨rfl, rfl⟩
 go_wp2_with fail
 have hF1 := Tryz.strconv_FormatInt_10 (q : Int) (by omega) (by omega) w HT.out
 refine hF1.mono ?_
 rintro e w1 ⟨rfl, k1, os1, hw1⟩
 have hB1 : Below w.heap.size w w1 := by rw [hw1]; exact Lib.below_grow _ _ (Nat.le_refl _) _ _
 have HT1 := Lib.hid (tab_later HT.out hB1)
 have HB1 := Lib.hid hB1
 clear hB1 hw1 HT hF1
 rw [itoa_nat]
 obtain ⟨X, hX⟩ : ∃ X : ByteArray, X = ⟨(Lib.decDigits q).toArray⟩ := ⟨_, rfl⟩
 rw [← hX]
 have hXs : X.size ≤ 20 := by rw [Lib.size_eq, hX]; exact dec_len q (by omega)
 have HX := Lib.hid hX
 clear hX
 go_wp2_with fail
 go_ret
 refine ⟨ret_stn ?_, HB1.out⟩
 apply ByteArray.ext
 apply Array.toList_inj.1
 have hA : absText m = Lib.decDigits q ++ [] := by
  unfold absText fracT
  rw [if_neg HM0.out, HR0.out, if_pos (by omega), ← HQ.out, decL_pos q (by omega)]
 rw [hA]
 have hX := HX.out
 subst hX
 simp
set_option maxRecDepth 100000 in
set_option maxHeartbeats 1000000 in
theorem NumText_nqr (m : Nat) (w : World) (htab : tabT w) (h1 : 0 < m) (h2 : m ≤ 999999999999999999) (hq : 1000000 ≤ m) (hr : 0 < m % 1000000) :
 Calls Tryz.prog 304 #[.int .i64 (-(m : Int))] w fun e w' => e = .returned (.string ⟨(45 :: absText m).toArray⟩) ∧ Below w.heap.size w w' := by
 have hn : isNumB (-(m : Int)) = true := by simp [isNumB]; omega
 have HK := Lib.hid (fun W => isNum_any (-(m : Int)) W)
 rw [hn] at HK
 clear hn
 have HT := Lib.hid htab
 clear htab
 obtain ⟨q, hqd⟩ : ∃ q : Nat, q = m / 1000000 := ⟨_, rfl⟩
 obtain ⟨r, hrd⟩ : ∃ r : Nat, r = m % 1000000 := ⟨_, rfl⟩
 have e1 : (m : Int) / 1000000 = q := by omega
 have e2 : (m : Int) % 1000000 = r := by omega
 have HQ := Lib.hid hqd
 have HRD := Lib.hid hrd
 have hr9 : r < 1000000 := by omega
 have hm9 : (m : Int) ≤ 999999999999999999 := by omega
 have hm0 : (0 : Int) < m := by omega
 have hq9 : (q : Int) ≤ 999999999999 := by omega
 have hq' : (1000000 : Int) ≤ m := by omega
 have hr' : (0 : Int) < r := by omega
 have hqp : 0 < q := by omega
 have hrp : 0 < r := by omega
 have HR0 : Hid (m % 1000000 = r) := hrd.symm
 have HM0 : Hid (m ≠ 0) := by unfold Hid; omega
 clear hqd hrd h2 h1 hq hr
 go_enter Tryz.func304, Tryz.ntmps304
 go_wp2_with fail
 refine (HK.out _).mono ?_
 rintro e w' ⟨rfl, rfl⟩
 go_wp2_with fail
 have hF1 := Tryz.strconv_FormatInt_10 (q : Int) (by omega) (by omega) w HT.out
 refine hF1.mono ?_
 rintro e w1 ⟨rfl, k1, os1, hw1⟩
 have hB1 : Below w.heap.size w w1 := by rw [hw1]; exact Lib.below_grow _ _ (Nat.le_refl _) _ _
 have HT1 := Lib.hid (tab_later HT.out hB1)
 have HB1 := Lib.hid hB1
 clear hB1 hw1 HT hF1
 rw [itoa_nat]
 obtain ⟨X, hX⟩ : ∃ X : ByteArray, X = ⟨(Lib.decDigits q).toArray⟩ := ⟨_, rfl⟩
 rw [← hX]
 have hXs : X.size ≤ 20 := by rw [Lib.size_eq, hX]; exact dec_len q (by omega)
 have HX := Lib.hid hX
 clear hX
 go_wp2_with fail
 have hF2 := Tryz.strconv_FormatInt_10 (1000000 + (r : Int)) (by omega) (by omega) w1 HT1.out
 refine hF2.mono ?_
 rintro e w2 ⟨rfl, k2, os2, hw2⟩
 have hB2 : Below w1.heap.size w1 w2 := by rw [hw2]; exact Lib.below_grow _ _ (Nat.le_refl _) _ _
 have HB2 := Lib.hid (HB1.out.later hB2)
 clear hB2 hw2 hF2
 rw [show (1000000 + (r : Int)) = ((1000000 + r : Nat) : Int) from by omega, itoa_nat]
 obtain ⟨Y, hY⟩ : ∃ Y : ByteArray, Y = ⟨(Lib.decDigits (1000000 + r)).toArray⟩ := ⟨_, rfl⟩
 rw [← hY]
 have hYs : Y.size ≤ 20 := by rw [Lib.size_eq, hY]; exact dec_len _ (by omega)
 have hY1 : 1 ≤ Y.size := by rw [Lib.size_eq, hY]; exact dec_pos _
 have HY := Lib.hid hY
 clear hY
 go_wp2_with fail
 refine (Tryz.strings_TrimRight_one _ 48 (by decide) _ (by rw [ByteArray.size_extract]; omega)).mono ?_
 rintro e w' ⟨rfl, rfl⟩
 obtain ⟨Z, hZ⟩ : ∃ Z : ByteArray, Z = ⟨(Lib.trimRightB (Y.extract 1 Y.size).data.toList 48).toArray⟩ := ⟨_, rfl⟩
 rw [← hZ]
 have hZs : Z.size ≤ 20 := by rw [Lib.size_eq, hZ]; exact trimB_len _ (by rw [← Lib.size_eq, ByteArray.size_extract]; omega)
 have HZ : Hid (Z.data.toList = trimZ ((decL (1000000 + r)).drop 1)) := by unfold Hid; rw [hZ]; exact frac_list Y r HY.out
 clear hZ
 go_wp2_with fail
 go_ret
 refine ⟨ret_stn ?_, HB2.out⟩
 apply ByteArray.ext
 apply Array.toList_inj.1
 have hA : absText m = Lib.decDigits q ++ 46 :: trimZ ((decL (1000000 + r)).drop 1) := by
  unfold absText fracT
  rw [if_neg HM0.out, HR0.out, if_neg (by omega), ← HQ.out, decL_pos q (by omega)]
 rw [hA]
 rw [← HZ.out]
 have hX := HX.out
 subst hX
 simp
theorem NumText_any (n : Int) (w : World) (htab : tabT w) (h1 : -999999999999999999 ≤ n) (h2 : n ≤ 999999999999999999) :
 Calls Tryz.prog 304 #[.int .i64 n] w fun e w' => e = .returned (.string ⟨(numText n).toArray⟩) ∧ Below w.heap.size w w' := by
 rcases Int.lt_trichotomy n 0 with h | h | h
 · have hE : numText n = 45 :: absText n.natAbs := if_pos h
   rw [hE]
   obtain ⟨m, rfl⟩ : ∃ m : Nat, n = -(m : Int) := ⟨n.natAbs, by omega⟩
   rw [Int.natAbs_neg, Int.natAbs_natCast]
   by_cases hq : 1000000 ≤ m <;> by_cases hr : 0 < m % 1000000
   · exact NumText_nqr m w htab (by omega) (by omega) hq hr
   · exact NumText_nq m w htab (by omega) (by omega) hq (by omega)
   · exact NumText_nr m w htab (by omega) (by omega) (by omega) hr
   · omega
 · subst h
   have HK := Lib.hid (fun W => isNum_any 0 W)
   have HE : Hid ((⟨#[48]⟩ : ByteArray) = ⟨(numText 0).toArray⟩) := rfl
   rw [show isNumB 0 = true from by decide] at HK
   go_enter Tryz.func304, Tryz.ntmps304
   go_wp2_with fail
   refine (HK.out _).mono ?_
   rintro e w' ⟨rfl, rfl⟩
   go_wp2_with fail
   go_ret
   exact ⟨ret_stn HE.out, Below.refl _ _⟩
 · have hE : numText n = absText n.toNat := if_neg (by omega)
   rw [hE]
   obtain ⟨m, rfl⟩ := Int.eq_ofNat_of_zero_le (show 0 ≤ n by omega)
   rw [Int.toNat_natCast]
   by_cases hq : 1000000 ≤ m <;> by_cases hr : 0 < m % 1000000
   · exact NumText_pqr m w htab (by omega) (by omega) hq hr
   · exact NumText_pq m w htab (by omega) (by omega) hq (by omega)
   · exact NumText_pr m w htab (by omega) (by omega) (by omega) hr
   · omega
set_option maxHeartbeats 400000 in
theorem IsCanon_any (s : ByteArray) (w : World) (htab : tabT w) (hs : s.size ≤ 1048576) :
 Calls Tryz.prog 294 #[.string s] w fun e w' => e = .returned (.bool (canonB s)) ∧ Below w.heap.size w w' := by
 have hbd := numS_bd' s.data.toList
 have HK1 := Lib.hid (fun W => NumOf_any s W hs)
 rw [numI_eq] at HK1
 have HK2 := Lib.hid (fun W hW => NumText_any (numS s.data.toList) W hW hbd.1 hbd.2)
 have HE : Hid (canonB s = decide (numText (numS s.data.toList) = s.data.toList)) := rfl
 have HT := Lib.hid htab
 clear hbd htab
 generalize numS s.data.toList = n at *
 generalize numText n = l at *
 go_enter Tryz.func294, Tryz.ntmps294
 go_wp2_with fail
 refine (HK1.out _).mono ?_
 rintro e w1 ⟨rfl, hb1⟩
 have HT1 := Lib.hid (tab_later HT.out hb1)
 have HB1 := Lib.hid hb1
 clear hb1
 go_wp2_with fail
 refine (HK2.out _ HT1.out).mono ?_
 rintro e w2 ⟨rfl, hb2⟩
 have HB2 := Lib.hid (HB1.out.later hb2)
 clear hb2
 go_wp2_with fail
 go_ret
 refine ⟨ret_bool ?_, HB2.out⟩
 rw [HE.out, ← toList_data, Bool.eq_iff_iff]
 simp
end Go.Proofs.YtlicffeicmoifaaGreatDoor
