/-
  What l01Text and l01Canon of the reference compute.
-/
import Derived.Test.YtfpcjhajjejpdaaGreatDoorZ04
namespace Go.Proofs.YtfpcjhajjejpdaaGreatDoor
open Go.RowKit

theorem bytes_snoc (t : ByteArray) (h : 0 < t.size) : t.data.toList = (t.extract 0 (t.size - 1)).data.toList ++ [t[t.size - 1]] := by
  rw [Lib.extract_data]
  simp only [List.drop_zero, Nat.sub_zero]
  have hl : t.size - 1 < t.data.toList.length := by rw [← Lib.size_eq]; omega
  have := List.take_succ_eq_append_getElem hl
  rw [show t.size - 1 + 1 = t.data.toList.length from by rw [← Lib.size_eq]; omega, List.take_length] at this
  exact this
theorem size_ext (t : ByteArray) : (t.extract 0 (t.size - 1)).size = t.size - 1 := by rw [ByteArray.size_extract]; omega
theorem byte48 {b : UInt8} : ((b.toNat : Int) == 48) = true ↔ b = 48 := by
  rw [beq_iff_eq]
  constructor
  · intro h
    apply UInt8.toNat_inj.1
    show b.toNat = 48
    omega
  · rintro rfl; rfl

def strLen (v : Value) : Nat := match v with | .string t => t.size | _ => 0

theorem pow12 : (10 : Nat) ^ 12 = 1000000000000 := by decide +kernel

theorem absText_len (n : Nat) (h : n ≤ 999999999999999999) : (absText n).length ≤ 20 := by
  unfold absText
  split
  · simp
  · have h1 := decL_len 12 (n / 1000000) (by rw [pow12]; omega)
    rw [List.length_append]
    unfold fracT
    split
    · simp; omega
    · have h2 := decL_len 7 (1000000 + n % 1000000) (by rw [pow7]; omega)
      have h3 := trimZ_len ((decL (1000000 + n % 1000000)).drop 1)
      rw [List.length_drop] at h3
      simp only [List.length_cons]
      omega

set_option maxHeartbeats 2000000 in
theorem l01Text_pos (n : Nat) (w : World) (hn : n ≤ 999999999999999999) :
    Calls Tryz.prog 181 #[.int .i64 n] w fun e w' => e = .returned (.string ⟨(absText n).toArray⟩) ∧ Below w.heap.size w w' := by
  have hW : n / 1000000 < 10 ^ 12 := by rw [pow12]; omega
  have HK1 : Hid (∀ W, Calls Tryz.prog 214 #[.int .i64 ((n : Int) / 1000000)] W fun e w' => e = .returned (.string ⟨(decL (n / 1000000)).toArray⟩) ∧ Below W.heap.size W w') := fun W => by
    have := l01Whole_any 12 (n / 1000000) W hW (by omega)
    rwa [show ((n / 1000000 : Nat) : Int) = (n : Int) / 1000000 from by omega] at this
  have hl1 := decL_len 12 _ hW
  clear hW
  by_cases hr : n % 1000000 = 0
  · have HE : Hid (absText n = if n = 0 then [48] else decL (n / 1000000)) := by unfold Hid absText fracT; rw [if_pos hr]; simp
    have HZ : Hid (decL (n / 1000000) = [] ↔ n = 0) := by
      unfold Hid
      constructor
      · intro h
        have := valN_decL 12 (n / 1000000) (by rw [pow12]; omega)
        rw [h] at this
        simp [valN] at this
        omega
      · rintro rfl; rfl
    have hr' : ¬ (0 : Int) < (n : Int) % 1000000 := by omega
    generalize decL (n / 1000000) = l at *
    clear hr
    go_enter Tryz.func181, Tryz.ntmps181
    go_wp2_with fail
    refine (HK1.out _).mono ?_
    rintro e w1 ⟨rfl, hb1⟩
    have HB1 := Lib.hid hb1
    clear hb1
    go_wp2_with fail
    · go_ret
      have hl : l = [] := by simpa using (show l.isEmpty = true by assumption)
      exact ⟨ret_stn (by rw [HE.out, if_pos (HZ.out.1 hl)]), HB1.out⟩
    · go_ret
      have hl : l ≠ [] := by simpa using (show l.isEmpty = false by assumption)
      exact ⟨ret_stn (by rw [HE.out, if_neg (fun h => hl (HZ.out.2 h))]), HB1.out⟩
  · have hW : 1000000 + n % 1000000 < 10 ^ 7 := by rw [pow7]; omega
    have HK2 : Hid (∀ W, Calls Tryz.prog 214 #[.int .i64 (1000000 + (n : Int) % 1000000)] W fun e w' => e = .returned (.string ⟨(decL (1000000 + n % 1000000)).toArray⟩) ∧ Below W.heap.size W w') := fun W => by
      have := l01Whole_any 7 (1000000 + n % 1000000) W hW (by omega)
      rwa [show ((1000000 + n % 1000000 : Nat) : Int) = 1000000 + (n : Int) % 1000000 from by omega] at this
    have hl2 := decL_len 7 _ hW
    have hpos : (0 : Int) < (n : Int) % 1000000 := by omega
    have hne := frac_ne (n % 1000000) (by omega) (by omega)
    have HE : Hid (absText n = decL (n / 1000000) ++ 46 :: trimZ ((decL (1000000 + n % 1000000)).drop 1)) := by
      unfold Hid absText fracT
      rw [if_neg (by omega), if_neg hr]
    have hl3 : 0 < (decL (1000000 + n % 1000000)).length := by
      rcases Nat.eq_zero_or_pos (decL (1000000 + n % 1000000)).length with h | h
      · exfalso
        apply hne
        rw [List.eq_nil_of_length_eq_zero h]
        rfl
      · exact h
    have HNE := Lib.hid hne
    clear hW hr hne
    generalize decL (n / 1000000) = l at *
    generalize decL (1000000 + n % 1000000) = F at *
    go_enter Tryz.func181, Tryz.ntmps181
    go_wp2_with fail
    refine (HK1.out _).mono ?_
    rintro e w1 ⟨rfl, hb1⟩
    have HB1 := Lib.hid hb1
    clear hb1
    go_wp2_with fail
    refine (HK2.out _).mono ?_
    rintro e w2 ⟨rfl, hb2⟩
    have HB2 := Lib.hid (HB1.out.later hb2)
    clear hb2
    go_wp2_with fail
    go_loop [5] (fun v => ∃ t : ByteArray, v = .string t ∧ t.size ≤ 7 ∧ Hid (trimZ t.data.toList = trimZ (F.drop 1))) (fun v => strLen v)
    case atStart =>
      refine ⟨_, rfl, ?_, ?_⟩
      · rw [ByteArray.size_extract]; simp [ByteArray.size]; omega
      · unfold Hid
        rw [Lib.extract_data]
        show trimZ ((F.drop 1).take (F.length - 1)) = _
        rw [List.take_of_length_le (by simp)]
    case round =>
      obtain ⟨t, rfl, ht, hT⟩ := hrel
      have h0 : 0 < t.size := by
        rcases Nat.eq_zero_or_pos t.size with h | h
        · exfalso
          apply HNE.out
          rw [← hT.out, List.eq_nil_of_length_eq_zero (show t.data.toList.length = 0 by rw [← Lib.size_eq]; exact h)]
          rfl
        · exact h
      have HS := Lib.hid (bytes_snoc t h0)
      have hem : (({ data := l.toArray } : ByteArray) ++ (({ data := #[46] } : ByteArray) ++ t)).toList.isEmpty = false := by
        rw [toList_data, ByteArray.data_append, ByteArray.data_append, Array.toList_append, Array.toList_append]
        simp
      go_wp2_with fail
      · have hb : t[t.size - 1] = 48 := byte48.1 (by assumption)
        go_round
        case rel => exact ⟨_, rfl, by rw [size_ext]; omega, by unfold Hid; rw [← hT.out, HS.out, hb, trimZ_zero]⟩
        case measure => simp only [strLen]; have := size_ext t; show (t.extract 0 (t.size - 1)).size < t.size; omega
      · have hb : t[t.size - 1] ≠ 48 := fun h => by
          have h1 := byte48.2 h
          have h2 : ((t[t.size - 1].toNat : Int) == 48) = false := by assumption
          rw [h1] at h2; cases h2
        have HT : Hid (trimZ (F.drop 1) = t.data.toList) := by
          unfold Hid
          rw [← hT.out]
          conv => lhs; rw [HS.out]
          rw [trimZ_stop _ _ hb, ← HS.out]
        clear hb
        go_ret
        refine ⟨ret_stn ?_, HB2.out⟩
        rw [HE.out, HT.out]
        apply ByteArray.ext
        rw [ByteArray.data_append, ByteArray.data_append]
        apply Array.toList_inj.1
        simp

set_option maxHeartbeats 400000 in
theorem l01Text_any (n : Int) (w : World) (h1 : -999999999999999999 ≤ n) (h2 : n ≤ 999999999999999999) :
    Calls Tryz.prog 181 #[.int .i64 n] w fun e w' => e = .returned (.string ⟨(numText n).toArray⟩) ∧ Below w.heap.size w w' := by
  by_cases hneg : n < 0
  · have HK : Hid (∀ W, Calls Tryz.prog 181 #[.int .i64 (-n)] W fun e w' => e = .returned (.string ⟨(absText n.natAbs).toArray⟩) ∧ Below W.heap.size W w') := fun W => by
      have := l01Text_pos n.natAbs W (by omega)
      rwa [show (n.natAbs : Int) = -n from by omega] at this
    have HE : Hid (numText n = 45 :: absText n.natAbs) := if_pos hneg
    have hlen := absText_len n.natAbs (by omega)
    generalize absText n.natAbs = l at *
    go_enter Tryz.func181, Tryz.ntmps181
    go_wp2_with fail
    refine (HK.out _).mono ?_
    rintro e w1 ⟨rfl, hb1⟩
    have HB1 := Lib.hid hb1
    clear hb1
    go_wp2_with fail
    go_ret
    refine ⟨ret_stn ?_, HB1.out⟩
    rw [HE.out]
    apply ByteArray.ext
    simp
  · have HE : numText n = absText n.toNat := if_neg hneg
    rw [HE]
    have := l01Text_pos n.toNat w (by omega)
    rwa [show (n.toNat : Int) = n from by omega] at this

/-- Whether a text is the text of its number. -/
def canonB (s : ByteArray) : Bool := decide (numText (numS s.data.toList) = s.data.toList)

theorem absText_ne (n : Nat) (_h : n ≤ 999999999999999999) : absText n ≠ [] := by
  unfold absText
  split
  · simp
  · rename_i h0
    intro he
    obtain ⟨h1, h2⟩ := List.append_eq_nil_iff.1 he
    unfold fracT at h2
    split at h2
    · rename_i hr
      have := valN_decL 12 (n / 1000000) (by rw [pow12]; omega)
      rw [h1] at this
      simp [valN] at this
      omega
    · cases h2
theorem numText_len (n : Int) (h1 : -999999999999999999 ≤ n) (h2 : n ≤ 999999999999999999) : 0 < (numText n).length ∧ (numText n).length ≤ 21 := by
  unfold numText
  split
  · have := absText_len n.natAbs (by omega)
    simp only [List.length_cons]
    omega
  · have a := absText_len n.toNat (by omega)
    have b := List.length_pos_iff.2 (absText_ne n.toNat (by omega))
    omega
theorem numS_bd' (l : List UInt8) : -999999999999999999 ≤ numS l ∧ numS l ≤ 999999999999999999 := by
  have := numS_bd l
  unfold maxNum at this
  omega

set_option maxHeartbeats 400000 in
theorem l01Canon_any (s : ByteArray) (w : World) (hs : s.size ≤ 1048576) :
    Calls Tryz.prog 128 #[.string s] w fun e w' => e = .returned (.bool (canonB s)) ∧ Below w.heap.size w w' := by
  have hbd := numS_bd' s.data.toList
  have hlen := numText_len _ hbd.1 hbd.2
  by_cases h0 : s.size = 0
  · have HE : Hid (canonB s = false) := by
      unfold Hid canonB
      rw [decide_eq_false_iff_not]
      intro h
      rw [h, ← Lib.size_eq] at hlen
      omega
    have hem : s.toList.isEmpty = true := by rw [toList_data, List.eq_nil_of_length_eq_zero (show s.data.toList.length = 0 by rw [← Lib.size_eq]; exact h0)]; rfl
    clear hbd hlen h0
    go_enter Tryz.func128, Tryz.ntmps128
    go_wp2_with fail
    go_ret
    exact ⟨ret_bool HE.out.symm, Below.refl _ _⟩
  · have hem : s.toList.isEmpty = false := by
      rw [toList_data]
      cases hx : s.data.toList with
      | nil => exfalso; apply h0; rw [Lib.size_eq, hx]; rfl
      | cons a l => rfl
    by_cases h21 : s.size ≤ 21
    · have HK1 := Lib.hid (fun W => l01Of_any s W hs)
      have HK2 := Lib.hid (fun W => l01Text_any (numS s.data.toList) W hbd.1 hbd.2)
      have HE : Hid (canonB s = decide (numText (numS s.data.toList) = s.data.toList)) := rfl
      clear hbd hlen h0
      generalize numS s.data.toList = n at *
      generalize numText n = l at *
      go_enter Tryz.func128, Tryz.ntmps128
      go_wp2_with fail
      refine (HK1.out _).mono ?_
      rintro e w1 ⟨rfl, rfl⟩
      go_wp2_with fail
      refine (HK2.out _).mono ?_
      rintro e w2 ⟨rfl, hb2⟩
      have HB2 := Lib.hid hb2
      clear hb2
      go_wp2_with fail
      go_ret
      refine ⟨ret_bool ?_, HB2.out⟩
      rw [HE.out, ← toList_data, Bool.eq_iff_iff]
      simp
    · have HE : Hid (canonB s = false) := by
        unfold Hid canonB
        rw [decide_eq_false_iff_not]
        intro h
        rw [h, ← Lib.size_eq] at hlen
        omega
      clear hbd hlen h0
      go_enter Tryz.func128, Tryz.ntmps128
      go_wp2_with fail
      go_ret
      exact ⟨ret_bool HE.out.symm, Below.refl _ _⟩
end Go.Proofs.YtfpcjhajjejpdaaGreatDoor
