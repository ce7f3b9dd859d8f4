import Derived.Test.YtlicffeicmoifaaGreatDoorZ00
import Derived.Test.YtlicffeicmoifaaGreatDoorProg
import Derived.Test.YtlicffeicmoifaaGreatDoorZ01
import Derived.Deep.CutBlock
import Derived.Deep.DeepCutAuto
set_option linter.unusedSimpArgs false
namespace Go.Proofs.YtlicffeicmoifaaGreatDoor
open Go.RowKit
set_option maxHeartbeats 400000 in
theorem l01Digit_any (c : UInt8) (w : World) :
 Calls Tryz.prog 238 #[.int .u8 c.toNat] w fun e w' => e = .returned (.bool (isD c)) ∧ w = w' := by
 unfold isD
 generalize c.toNat = n
 by_cases h1 : 48 ≤ n
 · by_cases h2 : n ≤ 57
   all_goals
    go_enter Tryz.func238, Tryz.ntmps238
    go_wp2
    go_ret
    exact ⟨ret_bool (by first | (simp; done) | (simp; omega) | (rw [Bool.eq_iff_iff]; simp; omega)), rfl⟩
 · go_enter Tryz.func238, Tryz.ntmps238
   go_wp2
   go_ret
   exact ⟨ret_bool (by first | (simp; done) | (simp; omega) | (rw [Bool.eq_iff_iff]; simp; omega)), rfl⟩
set_option maxHeartbeats 400000 in
theorem l00Min_any (a b : Int) (w : World) :
 Calls Tryz.prog 332 #[.int .i64 a, .int .i64 b] w fun e w' => e = .returned (.int .i64 (min a b)) ∧ w = w' := by
 by_cases h : a < b
 · go_enter Tryz.func332, Tryz.ntmps332
   go_wp2
   go_ret
   exact ⟨ret_int (by omega), rfl⟩
 · go_enter Tryz.func332, Tryz.ntmps332
   go_wp2
   go_ret
   exact ⟨ret_int (by omega), rfl⟩
theorem byte_eq (c : UInt8) (n : Nat) (hn : n < 256) : ((c.toNat : Int) == (n : Int)) = decide (c = UInt8.ofNat n) := by
 rw [Bool.eq_iff_iff, beq_iff_eq, decide_eq_true_iff]
 constructor
 · intro h
   apply UInt8.toNat_inj.1
   rw [UInt8.toNat_ofNat', Nat.mod_eq_of_lt hn]
   omega
 · rintro rfl
   rw [UInt8.toNat_ofNat', Nat.mod_eq_of_lt hn]
theorem drop_cons (s : ByteArray) (k : Nat) (hk : k < s.size) : s.data.toList.drop k = s[k] :: s.data.toList.drop (k + 1) :=
 List.drop_eq_getElem_cons (by rw [← Lib.size_eq]; exact hk)
theorem drop_end (s : ByteArray) (k : Nat) (hk : s.size ≤ k) : s.data.toList.drop k = [] := List.drop_of_length_le (by rw [← Lib.size_eq]; exact hk)
set_option maxRecDepth 100000 in
set_option maxHeartbeats 2000000 in
theorem l01Of_any (s : ByteArray) (w : World) (hs : s.size ≤ 1048576) :
 Calls Tryz.prog 308 #[.string s] w fun e w' => e = .returned (.int .i64 (numS s.data.toList)) ∧ w = w' := by
 go_enter Tryz.func308, Tryz.ntmps308
 go_upto_block 0 with (fail)
 go_cut [3, 4] (fun i m wx => w = wx ∧ ∃ (k : Nat) (b : Bool), k ≤ s.size ∧ i = .int .i64 k ∧ m = .bool b ∧ Hid (skipS s.data.toList false = (b, s.data.toList.drop k)))
 case first =>
  go_wp2_with fail
  go_loop [3, 4] (fun i m => ∃ (k : Nat) (b : Bool), k ≤ s.size ∧ i = .int .i64 k ∧ m = .bool b ∧ Hid (skipS s.data.toList false = skipS (s.data.toList.drop k) b)) (fun i _ => s.size - (intOf i).toNat)
  case atStart => exact ⟨0, false, Nat.zero_le _, rfl, rfl, rfl⟩
  case round =>
   obtain ⟨k, b, hk, rfl, rfl, hS⟩ := hrel
   by_cases hlt : k < s.size
   · have HD := Lib.hid (drop_cons s k hlt)
     by_cases c1 : s[k] = 43
     · have hb1 : ((s[k].toNat : Int) == 43) = true := by rw [c1]; rfl
       have hb2 : ((s[k].toNat : Int) == 45) = false := by rw [c1]; rfl
       have HC := Lib.hid c1
       clear c1
       go_wp2_with fail
       go_round
       case rel => exact ⟨k + 1, b, by omega, by go_num, by cases b <;> rfl, by unfold Hid; rw [hS.out, HD.out, HC.out]; cases b <;> rfl⟩
       case measure => simp [intOf]; omega
     · by_cases c2 : s[k] = 45
       · have hb1 : ((s[k].toNat : Int) == 43) = false := by rw [c2]; rfl
         have hb2 : ((s[k].toNat : Int) == 45) = true := by rw [c2]; rfl
         have HC := Lib.hid c2
         clear c1 c2
         go_wp2_with fail
         go_round
         case rel => exact ⟨k + 1, !b, by omega, by go_num, by cases b <;> rfl, by unfold Hid; rw [hS.out, HD.out, HC.out]; cases b <;> rfl⟩
         case measure => simp [intOf]; omega
       · have hb1 : ((s[k].toNat : Int) == 43) = false := by have := byte_eq s[k] 43 (by omega); rw [decide_eq_false (by exact c1)] at this; exact this
         have hb2 : ((s[k].toNat : Int) == 45) = false := by have := byte_eq s[k] 45 (by omega); rw [decide_eq_false (by exact c2)] at this; exact this
         have HE : Hid (skipS s.data.toList false = (b, s.data.toList.drop k)) := by
          unfold Hid
          rw [hS.out, HD.out]
          unfold skipS
          rw [if_neg (by simp [isSg, c1, c2])]
         clear c1 c2
         go_wp2_with fail
         go_meet
         exact ⟨rfl, k, b, hk, rfl, rfl, HE.out⟩
   · have HE : Hid (skipS s.data.toList false = (b, s.data.toList.drop k)) := by
      unfold Hid
      rw [hS.out, drop_end s k (by omega)]
      rfl
     go_wp2_with fail
     go_meet
     exact ⟨rfl, k, b, hk, rfl, rfl, HE.out⟩
 case rest =>
  obtain ⟨rfl, k, b, hk, rfl, rfl, hK⟩ := hcut
  have HN : Hid (numS s.data.toList = if b = true then -(absS (s.data.toList.drop k) : Int) else absS (s.data.toList.drop k)) := by
   unfold Hid numS
   rw [hK.out]
  clear hK
  go_upto_block 2 with (fail)
  go_cut [3, 5] (fun i n wx => w = wx ∧ ∃ (j m : Nat), j ≤ s.size ∧ m ≤ 1000000000000 ∧ i = .int .i64 j ∧ n = .int .i64 m ∧ Hid (digW (s.data.toList.drop k) 0 = (m, s.data.toList.drop j)))
  case first =>
   go_wp2_with fail
   go_loop [3, 5] (fun i n => ∃ (j m : Nat), j ≤ s.size ∧ m ≤ 1000000000000 ∧ i = .int .i64 j ∧ n = .int .i64 m ∧ Hid (digW (s.data.toList.drop k) 0 = digW (s.data.toList.drop j) m)) (fun i _ => s.size - (intOf i).toNat)
   case atStart => exact ⟨k, 0, hk, by omega, rfl, rfl, rfl⟩
   case round =>
    obtain ⟨j, m, hj, hm, rfl, rfl, hS⟩ := hrel
    by_cases hlt : j < s.size
    · have HD := Lib.hid (drop_cons s j hlt)
      have HK := Lib.hid (l01Digit_any s[j])
      cases hd : isD s[j]
      · have HE : Hid (digW (s.data.toList.drop k) 0 = (m, s.data.toList.drop j)) := by
         unfold Hid
         rw [hS.out, HD.out]
         unfold digW
         rw [if_neg (by rw [hd]; simp)]
        rw [hd] at HK
        clear hd
        go_wp2_with fail
        refine (HK.out _).mono ?_
        rintro e w' ⟨rfl, rfl⟩
        go_wp2_with fail
        go_meet
        exact ⟨rfl, j, m, hj, hm, rfl, rfl, HE.out⟩
      · have hd9 := dV_le s[j] hd
        have hge : 48 ≤ s[j].toNat := by simp [isD] at hd; exact hd.1
        have hle : s[j].toNat ≤ 57 := by simp [isD] at hd; exact hd.2
        have HE : Hid (digW (s.data.toList.drop k) 0 = digW (s.data.toList.drop (j + 1)) (min (10 * m + dV s[j]) 1000000000000)) := by
         unfold Hid
         rw [hS.out, HD.out]
         conv => lhs; unfold digW
         rw [if_pos hd]
        have hdv : (dV s[j] : Int) = (s[j].toNat : Int) - 48 := by unfold dV; omega
        rw [hd] at HK
        have HV := Lib.hid hdv
        clear hd hdv
        go_wp2_with fail
        refine (HK.out _).mono ?_
        rintro e w' ⟨rfl, rfl⟩
        go_wp2_with fail
        refine (l00Min_any _ _ _).mono ?_
        rintro e w' ⟨rfl, rfl⟩
        go_wp2_with fail
        go_round
        case rel => exact ⟨j + 1, min (10 * m + dV s[j]) 1000000000000, by omega, by omega, by go_num, by have := HV.out; congr 1; omega, HE.out⟩
        case measure => simp [intOf]; omega
    · have HE : Hid (digW (s.data.toList.drop k) 0 = (m, s.data.toList.drop j)) := by
       unfold Hid
       rw [hS.out, drop_end s j (by omega)]
       rfl
      go_wp2_with fail
      go_meet
      exact ⟨rfl, j, m, hj, hm, rfl, rfl, HE.out⟩
  case rest =>
   obtain ⟨rfl, j, m, hj, hm, rfl, rfl, hD⟩ := hcut
   have HA : Hid (absS (s.data.toList.drop k) = min (withFrac (behind (s.data.toList.drop j)) (min (m * 1000000) 1000000000000000000)) maxNum) := by
    unfold Hid absS
    rw [hD.out]
   clear hD
   go_wp2_with fail
   refine (l00Min_any _ _ _).mono ?_
   rintro e w' ⟨rfl, rfl⟩
   obtain ⟨N, hN⟩ : ∃ N : Nat, N = min (m * 1000000) 1000000000000000000 := ⟨_, rfl⟩
   have hN2 : min ((m : Int) * 1000000) 1000000000000000000 = (N : Int) := by omega
   have hN3 : N ≤ 1000000000000000000 := by omega
   rw [hN2]
   rw [← hN] at HA
   clear hN hN2
   by_cases hlt : j < s.size
   · have HD := Lib.hid (drop_cons s j hlt)
     by_cases c1 : s[j] = 46
     · have hb1 : ((s[j].toNat : Int) == 46) = true := by rw [c1]; rfl
       have HF : Hid (absS (s.data.toList.drop k) = min (fracW (s.data.toList.drop (j + 1)) 100000 N) maxNum) := by
        unfold Hid
        rw [HA.out, HD.out, c1]
        rfl
       clear c1
       go_wp2_with fail
       go_loop [3, 5, 6] (fun i n u => ∃ (p q v : Nat), p ≤ s.size ∧ i = .int .i64 p ∧ n = .int .i64 q ∧ u = .int .i64 v ∧ v ≤ 100000 ∧ q + 10 * v ≤ 1000000000001000000 ∧ Hid (absS (s.data.toList.drop k) = min (fracW (s.data.toList.drop p) v q) maxNum)) (fun i _ _ => s.size - (intOf i).toNat)
       case atStart => exact ⟨j + 1, N, 100000, by omega, by go_num, rfl, rfl, by omega, by omega, HF.out⟩
       case round =>
        obtain ⟨p, q, v, hp, rfl, rfl, rfl, hv, hq, hS⟩ := hrel
        by_cases hlt2 : p < s.size
        · have HD2 := Lib.hid (drop_cons s p hlt2)
          have HK := Lib.hid (l01Digit_any s[p])
          cases hd : isD s[p]
          · have HE : Hid (absS (s.data.toList.drop k) = min q maxNum) := by
             unfold Hid
             rw [hS.out, HD2.out]
             unfold fracW
             rw [if_neg (by rw [hd]; simp)]
            rw [hd] at HK
            clear hd
            go_wp2_with fail
            refine (HK.out _).mono ?_
            rintro e w' ⟨rfl, rfl⟩
            go_wp2_with fail
            have HM : Hid (min (q : Int) 999999999999999999 = (absS (s.data.toList.drop k) : Int)) := by unfold Hid; rw [HE.out]; unfold maxNum; omega
            refine (l00Min_any _ _ _).mono ?_
            rintro e w' ⟨rfl, rfl⟩
            rw [HM.out]
            have hle := absS_le (s.data.toList.drop k)
            unfold maxNum at hle
            generalize absS (s.data.toList.drop k) = R at *
            cases b
            all_goals
             go_wp2_with fail
             go_ret
             exact ⟨ret_int (by rw [HN.out]; simp), rfl⟩
          · have hd9 := dV_le s[p] hd
            have hge : 48 ≤ s[p].toNat := by simp [isD] at hd; exact hd.1
            have hle : s[p].toNat ≤ 57 := by simp [isD] at hd; exact hd.2
            have HE : Hid (absS (s.data.toList.drop k) = min (fracW (s.data.toList.drop (p + 1)) (v / 10) (q + dV s[p] * v)) maxNum) := by
             unfold Hid
             rw [hS.out, HD2.out]
             conv => lhs; unfold fracW
             rw [if_pos hd]
            have hdv : (dV s[p] : Int) = (s[p].toNat : Int) - 48 := by unfold dV; omega
            have hmul : dV s[p] * v ≤ 9 * v := Nat.mul_le_mul_right _ hd9
            obtain ⟨dd, hdd⟩ : ∃ dd : Nat, (s[p].toNat : Int) - 48 = dd := ⟨dV s[p], hdv.symm⟩
            have hdd2 : dV s[p] = dd := by omega
            rw [hd] at HK
            rw [hdd2] at HE hmul hd9
            have HX := Lib.hid hdd
            obtain ⟨x, hx⟩ : ∃ x : Nat, dd * v = x := ⟨_, rfl⟩
            rw [hx] at HE hmul
            have HX2 := Lib.hid hx
            clear hd hdv hdd hdd2 hx
            go_wp2_with fail
            refine (HK.out _).mono ?_
            rintro e w' ⟨rfl, rfl⟩
            go_wp2_with fail
            go_round
            case rel =>
             refine ⟨p + 1, q + x, v / 10, by omega, by go_num, ?_, by go_num, by omega, by omega, HE.out⟩
             have e1 : (dd : Int) * (v : Int) = (x : Int) := by rw [← HX2.out]; simp
             rw [HX.out, e1, IntWalk.wrap64_in (x : Int) ⟨by omega, by omega⟩, IntWalk.wrap64_in ((q : Int) + (x : Int)) ⟨by omega, by omega⟩]
             congr 1
            case measure => simp [intOf]; omega
        · have HE : Hid (absS (s.data.toList.drop k) = min q maxNum) := by
           unfold Hid
           rw [hS.out, drop_end s p (by omega)]
           rfl
          go_wp2_with fail
          have HM : Hid (min (q : Int) 999999999999999999 = (absS (s.data.toList.drop k) : Int)) := by unfold Hid; rw [HE.out]; unfold maxNum; omega
          refine (l00Min_any _ _ _).mono ?_
          rintro e w' ⟨rfl, rfl⟩
          rw [HM.out]
          have hle := absS_le (s.data.toList.drop k)
          unfold maxNum at hle
          generalize absS (s.data.toList.drop k) = R at *
          cases b
          all_goals
           go_wp2_with fail
           go_ret
           exact ⟨ret_int (by rw [HN.out]; simp), rfl⟩
     · have hb1 : ((s[j].toNat : Int) == 46) = false := by have := byte_eq s[j] 46 (by omega); rw [decide_eq_false (by exact c1)] at this; exact this
       have HE : Hid (absS (s.data.toList.drop k) = min N maxNum) := by
        unfold Hid
        rw [HA.out, HD.out]
        simp only [behind, if_neg c1, withFrac]
       clear c1
       go_wp2_with fail
       have HM : Hid (min (N : Int) 999999999999999999 = (absS (s.data.toList.drop k) : Int)) := by unfold Hid; rw [HE.out]; unfold maxNum; omega
       refine (l00Min_any _ _ _).mono ?_
       rintro e w' ⟨rfl, rfl⟩
       rw [HM.out]
       have hle := absS_le (s.data.toList.drop k)
       unfold maxNum at hle
       generalize absS (s.data.toList.drop k) = R at *
       cases b
       all_goals
        go_wp2_with fail
        go_ret
        exact ⟨ret_int (by rw [HN.out]; simp), rfl⟩
   · have HE : Hid (absS (s.data.toList.drop k) = min N maxNum) := by
      unfold Hid
      rw [HA.out, drop_end s j (by omega)]
      rfl
     go_wp2_with fail
     have HM : Hid (min (N : Int) 999999999999999999 = (absS (s.data.toList.drop k) : Int)) := by unfold Hid; rw [HE.out]; unfold maxNum; omega
     refine (l00Min_any _ _ _).mono ?_
     rintro e w' ⟨rfl, rfl⟩
     rw [HM.out]
     have hle := absS_le (s.data.toList.drop k)
     unfold maxNum at hle
     generalize absS (s.data.toList.drop k) = R at *
     cases b
     all_goals
      go_wp2_with fail
      go_ret
      exact ⟨ret_int (by rw [HN.out]; simp), rfl⟩
end Go.Proofs.YtlicffeicmoifaaGreatDoor
namespace Go.Proofs.YtlicffeicmoifaaGreatDoor
open Go.RowKit
set_option maxRecDepth 100000 in
theorem trimD (l : List UInt8) : Lib.trimLeftS l [48, 49, 50, 51, 52, 53, 54, 55, 56, 57] = l.dropWhile isD := by
 unfold Lib.trimLeftS
 congr 1
 funext c
 have h : ∀ n : Fin 256, ([48, 49, 50, 51, 52, 53, 54, 55, 56, 57] : List UInt8).contains (UInt8.ofNat n.val) = isD (UInt8.ofNat n.val) := by decide
 have := h ⟨c.toNat, c.toNat_lt⟩
 rwa [UInt8.ofNat_toNat] at this
set_option maxRecDepth 100000 in
theorem trimSg (l : List UInt8) : Lib.trimLeftS l [43, 45] = l.dropWhile isSg := by
 unfold Lib.trimLeftS
 congr 1
 funext c
 have h : ∀ n : Fin 256, ([43, 45] : List UInt8).contains (UInt8.ofNat n.val) = isSg (UInt8.ofNat n.val) := by decide
 have := h ⟨c.toNat, c.toNat_lt⟩
 rwa [UInt8.ofNat_toNat] at this
theorem take_drop_len (p : UInt8 → Bool) (l : List UInt8) : (l.takeWhile p).length + (l.dropWhile p).length = l.length := by
 rw [← List.length_append, List.takeWhile_append_dropWhile]
set_option maxHeartbeats 400000 in
theorem digitsOf_any (s : ByteArray) (w : World) (hs : s.size ≤ 1048576) :
 Calls Tryz.prog 323 #[.string s] w fun e w' => e = .returned (.int .i64 (s.data.toList.takeWhile isD).length) ∧ Below w.heap.size w w' := by
 have HL := Lib.hid (take_drop_len isD s.data.toList)
 have HS := Lib.hid (Lib.size_eq s)
 have HK := Lib.hid (fun W => Tryz.strings_TrimLeft_set s ⟨#[48, 49, 50, 51, 52, 53, 54, 55, 56, 57]⟩ W (by decide) (ascii_of_all (by decide)))
 go_enter Tryz.func323, Tryz.ntmps323
 go_wp2_with fail
 refine (HK.out _).mono ?_
 rintro e w' ⟨rfl, hB⟩
 rw [trimD]
 have hz : (ByteArray.mk (s.data.toList.dropWhile isD).toArray).size = (s.data.toList.dropWhile isD).length := by simp [ByteArray.size]
 generalize s.data.toList.dropWhile isD = D at *
 go_wp2_with fail
 go_ret
 refine ⟨ret_int ?_, hB⟩
 have h1 := HL.out
 have h2 := HS.out
 rw [IntWalk.wrap64_in _ ⟨by omega, by omega⟩]
 omega
set_option maxRecDepth 100000 in
set_option maxHeartbeats 1000000 in
theorem scaled_any (s : ByteArray) (n0 : Nat) (w : World) (hs : s.size ≤ 2097152) (hn0 : n0 ≤ 999999999999999999) (hd : ∀ c ∈ s.data.toList, isD c = true) :
 Calls Tryz.prog 325 #[.int .i64 n0, .string s] w fun e w' => e = .returned (.int .i64 (scaledN s.data.toList n0)) ∧ Below w.heap.size w w' := by
 have hconv := run_bytes_of_string (P := Tryz.prog) w 9 22 5 s Tryz.underlying9 Tryz.underlying22 Tryz.underlying5
 have HC : Hid (∀ j (h : j < s.size), (bytesRow s (grownCap w s.size 0 5))[j]? = some (.int .u8 (s[j].toNat : Int))) := fun j h => bytesRow_at s _ j h
 generalize grownCap w s.size 0 5 = cap at *
 generalize bytesRow s cap = C at *
 have HD := Lib.hid hd
 have HB : Hid (Below w.heap.size w (w.alloc (.cells C 5 (C.size, C.size + 1))).drew) := by
  unfold Hid; exact (Below.new w _).drew
 clear hd
 go_enter Tryz.func325, Tryz.ntmps325
 go_wp2_with fail
 go_loop [0, 10] (fun n i => ∃ (k m : Nat), k ≤ s.size ∧ m ≤ 999999999999999999 ∧ n = .int .i64 m ∧ i = .int .i64 k ∧ Hid (scaledN s.data.toList n0 = scaledN (s.data.toList.drop k) m)) (fun _ i => s.size - (intOf i).toNat)
 case atStart => exact ⟨0, n0, Nat.zero_le _, hn0, rfl, rfl, rfl⟩
 case round =>
  obtain ⟨k, m, hk, hm, rfl, rfl, hS⟩ := hrel
  clear hconv
  by_cases hlt : k < s.size
  · have HR := Lib.hid (drop_cons s k hlt)
    have hcell : (w.alloc (.cells C 5 (C.size, C.size + 1))).cell? ⟨w.heap.size, k, none⟩ = some (.int .u8 (s[k].toNat : Int)) := by
     rw [World.cell?_alloc_mark]; exact HC.out k hlt
    have hdk : isD s[k] = true := HD.out _ (by have : s.data.toList[k]'(by rw [← Lib.size_eq]; exact hlt) = s[k] := rfl; rw [← this]; exact List.getElem_mem _)
    have hge : 48 ≤ s[k].toNat := by simp [isD] at hdk; exact hdk.1
    have hle : s[k].toNat ≤ 57 := by simp [isD] at hdk; exact hdk.2
    have hdv : dV s[k] + 48 = s[k].toNat := by unfold dV; omega
    obtain ⟨d, hdd⟩ : ∃ d : Nat, d = dV s[k] := ⟨_, rfl⟩
    rw [← hdd] at hdv
    have HE : Hid (scaledN s.data.toList n0 = if (999999999999999999 - d) / 10 < m then 999999999999999999 else scaledN (s.data.toList.drop (k + 1)) (10 * m + d)) := by
     unfold Hid
     rw [hS.out, HR.out, hdd]
     rfl
    rw [← hdv] at hcell
    have hd9 : d ≤ 9 := by omega
    clear hdk hge hle hdd hdv hS
    go_wp2_with fail
    · go_ret
      have hc : (999999999999999999 - (d : Int)) / 10 < m := by assumption
      exact ⟨ret_int (by rw [HE.out, if_pos (by omega)]; rfl), HB.out⟩
    · have hc : (m : Int) ≤ (999999999999999999 - d) / 10 := by assumption
      refine ⟨⟨k + 1, 10 * m + d, by omega, by omega, by go_num, by go_num, ?_⟩, by simp [intOf]; omega⟩
      unfold Hid
      rw [HE.out, if_neg (by omega)]
  · have HE : Hid (scaledN s.data.toList n0 = m) := by
     unfold Hid
     rw [hS.out, drop_end s k (by omega)]
     rfl
    go_wp2_with fail
    go_ret
    exact ⟨ret_int (by rw [HE.out]), HB.out⟩
end Go.Proofs.YtlicffeicmoifaaGreatDoor
namespace Go.Proofs.YtlicffeicmoifaaGreatDoor
open Go.RowKit
theorem ext_take (s : ByteArray) (n : Nat) : (s.extract 0 n).data.toList = s.data.toList.take n := by
 rw [ByteArray.data_extract, Array.toList_extract, List.extract_eq_take_drop]
 simp
theorem ext_drop (s : ByteArray) (k : Nat) : (s.extract k s.size).data.toList = s.data.toList.drop k := by
 rw [ByteArray.data_extract, Array.toList_extract, List.extract_eq_take_drop]
 rw [List.take_of_length_le (by rw [List.length_drop, ← Lib.size_eq]; exact Nat.le_refl _)]
theorem take_tw (p : UInt8 → Bool) (l : List UInt8) : l.take (l.takeWhile p).length = l.takeWhile p := by
 conv => lhs; rw [← List.takeWhile_append_dropWhile (p := p) (l := l)]
 exact List.take_left' (by rw [List.takeWhile_append_dropWhile])
theorem drop_tw (p : UInt8 → Bool) (l : List UInt8) : l.drop (l.takeWhile p).length = l.dropWhile p := by
 conv => lhs; arg 2; rw [← List.takeWhile_append_dropWhile (p := p) (l := l)]
 exact List.drop_left' rfl
theorem cut_dot (l : List UInt8) : (Lib.trimPrefix l [46], Lib.hasPrefix l [46]) = (match behind l with | some t => (t, true) | none => (l, false)) := by
 unfold Lib.trimPrefix Lib.hasPrefix
 cases l with
 | nil => rfl
 | cons c r =>
   by_cases hc : c = 46
   · subst hc; simp [behind]
   · have h1 : ¬ (46 : UInt8) = c := fun h => hc h.symm
     have h2 : ([46] : List UInt8).isPrefixOf (c :: r) = false := by
      show (((46 : UInt8) == c) && _) = false
      rw [show ((46 : UInt8) == c) = false by simpa using h1]
      rfl
     simp [behind, hc, h2]
theorem absI_digits (r : List UInt8) : ∀ c ∈ r.takeWhile isD ++ (fracI r ++ List.replicate 6 48).take 6, isD c = true := by
 intro c hc
 rcases List.mem_append.1 hc with h | h
 · exact mem_takeWhile _ _ h
 · rcases List.mem_append.1 (List.mem_of_mem_take h) with h | h
   · unfold fracI at h
     split at h
     · exact mem_takeWhile _ _ h
     · cases h
   · rw [List.eq_of_mem_replicate h]; decide
theorem behind_len (l t : List UInt8) (h : behind l = some t) : t.length ≤ l.length := by
 cases l with
 | nil => cases h
 | cons c r =>
   by_cases hc : c = 46
   · rw [behind, if_pos hc] at h
     injection h with h
     subst h
     simp
   · rw [behind, if_neg hc] at h
     cases h
theorem dig_str (R F : ByteArray) (k : Nat) (hk : k = (R.data.toList.takeWhile isD).length) :
 (R.extract 0 k ++ (F ++ ⟨#[48, 48, 48, 48, 48, 48]⟩).extract 0 6).data.toList = R.data.toList.takeWhile isD ++ (F.data.toList ++ List.replicate 6 48).take 6 := by
 rw [ByteArray.data_append, Array.toList_append, ext_take, ext_take, hk, take_tw, ByteArray.data_append, Array.toList_append]
 rfl
set_option maxRecDepth 100000 in
set_option maxHeartbeats 1000000 in
theorem NumOf_any (s : ByteArray) (w : World) (hs : s.size ≤ 1048576) :
 Calls Tryz.prog 295 #[.string s] w fun e w' => e = .returned (.int .i64 (numI s.data.toList)) ∧ Below w.heap.size w w' := by
 have HK := Lib.hid (fun W => Tryz.strings_TrimLeft_set s ⟨#[43, 45]⟩ W (by decide) (ascii_of_all (by decide)))
 have hL := take_drop_len isSg s.data.toList
 have hS := Lib.size_eq s
 go_enter Tryz.func295, Tryz.ntmps295
 go_wp2_with fail
 refine (HK.out _).mono ?_
 rintro e w1 ⟨rfl, hB1⟩
 rw [trimSg]
 obtain ⟨R, hR⟩ : ∃ R : ByteArray, R = ⟨(s.data.toList.dropWhile isSg).toArray⟩ := ⟨_, rfl⟩
 have hRl : R.data.toList = s.data.toList.dropWhile isSg := by rw [hR]
 have hRs : R.size = (s.data.toList.dropWhile isSg).length := by rw [← hRl, Lib.size_eq]
 rw [← hR]
 have HR := Lib.hid hRl
 have hR2 : R.size ≤ s.size := by omega
 have hG : s.size - R.size = (s.data.toList.takeWhile isSg).length := by omega
 have HG := Lib.hid hG
 have HB1 := Lib.hid hB1
 clear hR hRl hRs hL hS hG hB1
 go_wp2_with fail
 refine (Tryz.strings_Count_one _ 45 _).mono ?_
 rintro e w' ⟨rfl, rfl⟩
 obtain ⟨N, hN⟩ : ∃ N : Nat, N = Lib.countByte (s.extract 0 (s.size - R.size)).data.toList 45 := ⟨_, rfl⟩
 rw [← hN]
 have hN2 : N = (s.data.toList.takeWhile isSg).count 45 := by
  rw [hN, HG.out]
  unfold Lib.countByte
  congr 1
  rw [ext_take, take_tw]
 have hN3 : N ≤ s.size := by
  rw [hN2]
  have h1 := List.count_le_length (a := (45 : UInt8)) (l := s.data.toList.takeWhile isSg)
  have h2 := HG.out
  omega
 have HN := Lib.hid hN2
 clear hN hN2
 have HK2 := Lib.hid (fun W => digitsOf_any R W (by omega))
 go_wp2_with fail
 refine (HK2.out _).mono ?_
 rintro e w2 ⟨rfl, hB2⟩
 obtain ⟨k, hk⟩ : ∃ k : Nat, k = (R.data.toList.takeWhile isD).length := ⟨_, rfl⟩
 rw [← hk]
 have hk2 : k ≤ R.size := by
  have := take_drop_len isD R.data.toList
  rw [← Lib.size_eq] at this
  omega
 have HW := Lib.hid hk
 have HB2 := Lib.hid (HB1.out.later hB2)
 clear hk hB2 HB1 HK2
 go_wp2_with fail
 refine (Tryz.strings_CutPrefix _ _ _).mono ?_
 rintro e w3 ⟨rfl, rfl⟩
 have hD : (R.extract k R.size).data.toList = R.data.toList.dropWhile isD := by rw [ext_drop, HW.out, drop_tw]
 rw [hD]
 have hcut := cut_dot (R.data.toList.dropWhile isD)
 have hc1 := congrArg Prod.fst hcut
 have hc2 := congrArg Prod.snd hcut
 simp only at hc1 hc2
 cases hb : behind (R.data.toList.dropWhile isD) with
 | none =>
   rw [hb] at hc1 hc2
   simp only at hc1 hc2
   have HE : Hid (fracI R.data.toList = []) := by unfold Hid fracI; rw [hb]
   rw [hc1, hc2]
   clear hc1 hc2 hcut hb hD
   generalize R.data.toList.dropWhile isD = D at *
   go_wp2_with fail
   have HT := dig_str R ⟨#[]⟩ k HW.out
   rw [show (⟨#[]⟩ : ByteArray).data.toList = fracI R.data.toList from HE.out.symm] at HT
   obtain ⟨T, hTd⟩ : ∃ T : ByteArray, T = R.extract 0 k ++ ((⟨#[]⟩ : ByteArray) ++ ⟨#[48, 48, 48, 48, 48, 48]⟩).extract 0 6 := ⟨_, rfl⟩
   rw [← hTd] at HT ⊢
   clear hTd
   have hTs : T.size ≤ 2097152 := by
    rw [Lib.size_eq, HT, List.length_append]
    have h1 := take_drop_len isD R.data.toList
    rw [← Lib.size_eq] at h1
    have h2 : ((fracI R.data.toList ++ List.replicate 6 48).take 6).length ≤ 6 := List.length_take_le _ _
    omega
   have hTn : scaledN T.data.toList 0 = absI R.data.toList := by rw [HT]; rfl
   have hTd : ∀ c ∈ T.data.toList, isD c = true := by
    rw [HT]
    exact absI_digits _
   refine (scaled_any T 0 _ hTs (by omega) hTd).mono ?_
   rintro e w5 ⟨rfl, hB5⟩
   have HB5 := Lib.hid ((HB2.out).later hB5)
   have hle : scaledN T.data.toList 0 ≤ 999999999999999999 := by rw [hTn, absI_eq]; exact absS_le _
   have HX : Hid (numI s.data.toList = if N % 2 = 1 then -((scaledN T.data.toList 0 : Nat) : Int) else (scaledN T.data.toList 0 : Nat)) := by
    unfold Hid numI
    rw [hTn, HN.out, HR.out]
   clear hTn hTd hTs HT hB5
   generalize scaledN T.data.toList 0 = V at *
   by_cases hpar : N % 2 = 1
   · have hp2 : ((N : Int) % 2 == 1) = true := by rw [beq_iff_eq]; omega
     go_wp2_with fail
     go_ret
     exact ⟨ret_int (by rw [HX.out, if_pos hpar]), HB5.out⟩
   · have hp2 : ((N : Int) % 2 == 1) = false := by rw [beq_eq_false_iff_ne]; omega
     go_wp2_with fail
     go_ret
     exact ⟨ret_int (by rw [HX.out, if_neg hpar]), HB5.out⟩
 | some t =>
   rw [hb] at hc1 hc2
   simp only at hc1 hc2
   have HE : Hid (fracI R.data.toList = t.takeWhile isD) := by unfold Hid fracI; rw [hb]
   have htl : t.length ≤ R.size := by
    have h1 := take_drop_len isD R.data.toList
    rw [← Lib.size_eq] at h1
    have h2 := behind_len _ _ hb
    omega
   rw [hc1, hc2]
   clear hc1 hc2 hcut hb hD
   generalize R.data.toList.dropWhile isD = D at *
   obtain ⟨U, hU⟩ : ∃ U : ByteArray, U = ⟨t.toArray⟩ := ⟨_, rfl⟩
   rw [← hU]
   have hUt : U.data.toList = t := by rw [hU]
   have hUs : U.size ≤ R.size := by rw [Lib.size_eq, hUt]; exact htl
   clear hU
   have HU := Lib.hid hUt
   clear hUt htl
   have HK2 := Lib.hid (fun W => digitsOf_any U W (by omega))
   go_wp2_with fail
   refine (HK2.out _).mono ?_
   rintro e w4 ⟨rfl, hB4⟩
   obtain ⟨j, hj⟩ : ∃ j : Nat, j = (U.data.toList.takeWhile isD).length := ⟨_, rfl⟩
   rw [← hj]
   have hj2 : j ≤ U.size := by
    have := take_drop_len isD U.data.toList
    rw [← Lib.size_eq] at this
    omega
   have hF : (U.extract 0 j).data.toList = fracI R.data.toList := by rw [ext_take, hj, take_tw, HU.out, HE.out]
   have HF := Lib.hid hF
   have HB4 := Lib.hid (HB2.out.later hB4)
   have HJ := Lib.hid hj
   clear hj hF hB4 HK2
   obtain ⟨Fr, hFr⟩ : ∃ Fr : ByteArray, Fr = U.extract 0 j := ⟨_, rfl⟩
   go_wp2_with fail
   have HT := dig_str R (U.extract 0 j) k HW.out
   rw [HF.out] at HT
   obtain ⟨T, hTd⟩ : ∃ T : ByteArray, T = R.extract 0 k ++ (U.extract 0 j ++ ⟨#[48, 48, 48, 48, 48, 48]⟩).extract 0 6 := ⟨_, rfl⟩
   rw [← hTd] at HT ⊢
   clear hTd
   have hTs : T.size ≤ 2097152 := by
    rw [Lib.size_eq, HT, List.length_append]
    have h1 := take_drop_len isD R.data.toList
    rw [← Lib.size_eq] at h1
    have h2 : ((fracI R.data.toList ++ List.replicate 6 48).take 6).length ≤ 6 := List.length_take_le _ _
    omega
   have hTn : scaledN T.data.toList 0 = absI R.data.toList := by rw [HT]; rfl
   have hTd : ∀ c ∈ T.data.toList, isD c = true := by
    rw [HT]
    exact absI_digits _
   refine (scaled_any T 0 _ hTs (by omega) hTd).mono ?_
   rintro e w5 ⟨rfl, hB5⟩
   have HB5 := Lib.hid ((HB4.out).later hB5)
   have hle : scaledN T.data.toList 0 ≤ 999999999999999999 := by rw [hTn, absI_eq]; exact absS_le _
   have HX : Hid (numI s.data.toList = if N % 2 = 1 then -((scaledN T.data.toList 0 : Nat) : Int) else (scaledN T.data.toList 0 : Nat)) := by
    unfold Hid numI
    rw [hTn, HN.out, HR.out]
   clear hTn hTd hTs HT hB5
   generalize scaledN T.data.toList 0 = V at *
   by_cases hpar : N % 2 = 1
   · have hp2 : ((N : Int) % 2 == 1) = true := by rw [beq_iff_eq]; omega
     go_wp2_with fail
     go_ret
     exact ⟨ret_int (by rw [HX.out, if_pos hpar]), HB5.out⟩
   · have hp2 : ((N : Int) % 2 == 1) = false := by rw [beq_eq_false_iff_ne]; omega
     go_wp2_with fail
     go_ret
     exact ⟨ret_int (by rw [HX.out, if_neg hpar]), HB5.out⟩
end Go.Proofs.YtlicffeicmoifaaGreatDoor
