/-
  Tables of the reference: what l29Place, l29Cell and l30Value compute.
-/
import Derived.Test.YtalpafaflgddpaaGreatDoorOrdImpl3
import Derived.Test.YtalpafaflgddpaaGreatDoorDtSz
namespace Go.Proofs.YtalpafaflgddpaaGreatDoor
open Go.RowKit

/-- The place of a word in a list; -1 where it is not. -/
def placeI (l : List ByteArray) (x : ByteArray) : Int := idxS (fun y => decide (y = x)) l 0
theorem idxS_bd (p : ByteArray → Bool) : ∀ (l : List ByteArray) (k : Nat), -1 ≤ idxS p l k ∧ idxS p l k < k + l.length
  | [], k => by simp [idxS]; omega
  | s :: r, k => by
    have := idxS_bd p r (k + 1)
    unfold idxS
    simp only [List.length_cons]
    split <;> omega
theorem placeI_bd (l : List ByteArray) (x : ByteArray) : -1 ≤ placeI l x ∧ placeI l x < l.length := by
  have := idxS_bd (fun y => decide (y = x)) l 0
  unfold placeI
  omega
theorem placeI_in (l : List ByteArray) (x : ByteArray) : decide (0 ≤ placeI l x) = l.any fun y => decide (y = x) := idxS_any _ l 0

set_option maxHeartbeats 1000000 in
theorem l29Place_any (A : Option Addr) (n c : Nat) (ss : List ByteArray) (x : ByteArray) (w : World) (h : Strs w w.heap.size A n ss) (hn : n ≤ 1048576) :
    Calls Tryz.prog 84 #[.slice A n c, .string x] w fun e w' => e = .returned (.int .i64 (placeI ss x)) ∧ w = w' := by
  have Hh := Lib.hid h
  have Hlen := Lib.hid h.1
  clear h
  go_enter Tryz.func84, Tryz.ntmps84
  go_wp2_with fail
  go_loop [5] (fun i => ∃ k : Nat, k ≤ n ∧ i = .int .i64 k ∧ Hid (placeI ss x = idxS (fun y => decide (y = x)) (ss.drop k) k)) (fun i => n - (intOf i).toNat)
  case atStart => exact ⟨0, Nat.zero_le _, rfl, rfl⟩
  case round =>
    obtain ⟨k, hk, rfl, hS⟩ := hrel
    by_cases hlt : k < n
    · obtain ⟨b, o, rfl, hb, hcell⟩ := Hh.out.2 (by omega)
      have hck := hcell k hlt
      clear hcell
      have HS := Lib.hid (idxS_step (fun y => decide (y = x)) ss k (by rw [Hlen.out]; exact hlt))
      generalize ss.getD k ByteArray.empty = s at *
      by_cases he : s = x
      · have HE : Hid (placeI ss x = k) := by unfold Hid; rw [hS.out, HS.out, if_pos (by simp [he])]
        subst he
        go_wp2_with fail
        go_ret
        exact ⟨ret_int HE.out.symm, rfl⟩
      · have HE : Hid (placeI ss x = idxS (fun y => decide (y = x)) (ss.drop (k + 1)) (k + 1)) := by unfold Hid; rw [hS.out, HS.out, if_neg (by simp [he])]
        have hbq := str_beq he
        clear he
        go_wp2_with fail
        go_round
        case rel => exact ⟨k + 1, by omega, by go_num, HE.out⟩
        case measure => simp [intOf]; omega
    · have HE : Hid (placeI ss x = -1) := by unfold Hid; rw [hS.out, List.drop_of_length_le (by rw [Hlen.out]; omega)]; rfl
      go_wp2_with fail
      go_ret
      exact ⟨ret_int HE.out.symm, rfl⟩

def cellC (c : UInt8) : Bool := decide (32 ≤ c.toNat) && (decide (c.toNat ≤ 126) && decide (c.toNat ≠ 94))
def cellB (s : ByteArray) : Bool := s.data.toList.all cellC && decide (s.size ≤ 11)
def valueB (s : ByteArray) : Bool := (s.data.toList.all fun c => decide (c.toNat ≠ 32)) && cellB s

set_option maxHeartbeats 1000000 in
theorem l29Cell_any (s : ByteArray) (w : World) (hs : s.size ≤ 1048576) :
    Calls Tryz.prog 148 #[.string s] w fun e w' => e = .returned (.bool (cellB s)) ∧ w = w' := by
  have HR : Hid (cellB s = (s.data.toList.all cellC && decide (s.size ≤ 11))) := rfl
  generalize cellB s = R at *
  go_enter Tryz.func148, Tryz.ntmps148
  go_wp2_with fail
  go_loop [3] (fun i => ∃ k : Nat, k ≤ s.size ∧ i = .int .i64 k ∧ Hid (s.data.toList.all cellC = (s.data.toList.drop k).all cellC)) (fun i => s.size - (intOf i).toNat)
  case atStart => exact ⟨0, Nat.zero_le _, rfl, rfl⟩
  case round =>
    obtain ⟨k, hk, rfl, hS⟩ := hrel
    by_cases hlt : k < s.size
    · have HD := Lib.hid (drop_cons s k hlt)
      have HC : Hid (cellC s[k] = (decide (32 ≤ s[k].toNat) && (decide (s[k].toNat ≤ 126) && decide (s[k].toNat ≠ 94)))) := rfl
      by_cases h1 : s[k].toNat < 32
      · have HE : Hid (R = false) := by unfold Hid; rw [HR.out, hS.out, HD.out, List.all_cons, HC.out, decide_eq_false (by omega)]; simp
        go_wp2_with fail
        go_ret
        exact ⟨ret_bool HE.out.symm, rfl⟩
      · by_cases h2 : 126 < s[k].toNat
        · have HE : Hid (R = false) := by unfold Hid; rw [HR.out, hS.out, HD.out, List.all_cons, HC.out, decide_eq_false (show ¬ s[k].toNat ≤ 126 by omega)]; simp
          go_wp2_with fail
          go_ret
          exact ⟨ret_bool HE.out.symm, rfl⟩
        · by_cases h3 : s[k].toNat = 94
          · have HE : Hid (R = false) := by unfold Hid; rw [HR.out, hS.out, HD.out, List.all_cons, HC.out, h3]; simp
            have hb3 : ((s[k].toNat : Int) == 94) = true := by rw [beq_iff_eq]; omega
            have hb4 : (s[k].toNat == 94) = true := by rw [beq_iff_eq]; omega
            clear h3
            go_wp2_with fail
            go_ret
            exact ⟨ret_bool HE.out.symm, rfl⟩
          · have HE : Hid (s.data.toList.all cellC = (s.data.toList.drop (k + 1)).all cellC) := by unfold Hid; rw [hS.out, HD.out, List.all_cons, HC.out, decide_eq_true (show 32 ≤ s[k].toNat by omega), decide_eq_true (show s[k].toNat ≤ 126 by omega), decide_eq_true h3]; rfl
            have hb3 : ((s[k].toNat : Int) == 94) = false := by rw [beq_eq_false_iff_ne]; omega
            have hb4 : (s[k].toNat == 94) = false := by rw [beq_eq_false_iff_ne]; omega
            clear h3
            go_wp2_with fail
            go_round
            case rel => exact ⟨k + 1, by omega, by go_num, HE.out⟩
            case measure => simp [intOf]; omega
    · have HE : Hid (R = decide (s.size ≤ 11)) := by unfold Hid; rw [HR.out, hS.out, drop_end s k (by omega)]; rfl
      go_wp2_with fail
      go_ret
      exact ⟨ret_bool (by rw [HE.out]; first | (simp; done) | (simp; omega) | (rw [Bool.eq_iff_iff]; simp; omega)), rfl⟩

set_option maxHeartbeats 1000000 in
theorem l30Value_any (s : ByteArray) (w : World) (hs : s.size ≤ 1048576) :
    Calls Tryz.prog 119 #[.string s] w fun e w' => e = .returned (.bool (valueB s)) ∧ w = w' := by
  have HR : Hid (valueB s = ((s.data.toList.all fun c => decide (c.toNat ≠ 32)) && cellB s)) := rfl
  have HK := Lib.hid (l29Cell_any s w hs)
  generalize valueB s = R at *
  generalize cellB s = x at *
  go_enter Tryz.func119, Tryz.ntmps119
  go_wp2_with fail
  go_loop [3] (fun i => ∃ k : Nat, k ≤ s.size ∧ i = .int .i64 k ∧ Hid ((s.data.toList.all fun c => decide (c.toNat ≠ 32)) = (s.data.toList.drop k).all fun c => decide (c.toNat ≠ 32))) (fun i => s.size - (intOf i).toNat)
  case atStart => exact ⟨0, Nat.zero_le _, rfl, rfl⟩
  case round =>
    obtain ⟨k, hk, rfl, hS⟩ := hrel
    by_cases hlt : k < s.size
    · have HD := Lib.hid (drop_cons s k hlt)
      by_cases h3 : s[k].toNat = 32
      · have HE : Hid (R = false) := by unfold Hid; rw [HR.out, hS.out, HD.out, List.all_cons, h3]; simp
        have hb3 : ((s[k].toNat : Int) == 32) = true := by rw [beq_iff_eq]; omega
        have hb4 : (s[k].toNat == 32) = true := by rw [beq_iff_eq]; omega
        clear h3
        go_wp2_with fail
        go_ret
        exact ⟨ret_bool HE.out.symm, rfl⟩
      · have HE : Hid ((s.data.toList.all fun c => decide (c.toNat ≠ 32)) = (s.data.toList.drop (k + 1)).all fun c => decide (c.toNat ≠ 32)) := by unfold Hid; rw [hS.out, HD.out, List.all_cons, decide_eq_true h3]; rfl
        have hb3 : ((s[k].toNat : Int) == 32) = false := by rw [beq_eq_false_iff_ne]; omega
        have hb4 : (s[k].toNat == 32) = false := by rw [beq_eq_false_iff_ne]; omega
        clear h3
        go_wp2_with fail
        go_round
        case rel => exact ⟨k + 1, by omega, by go_num, HE.out⟩
        case measure => simp [intOf]; omega
    · have HE : Hid (R = x) := by unfold Hid; rw [HR.out, hS.out, drop_end s k (by omega)]; rfl
      go_wp2_with fail
      refine HK.out.mono ?_
      rintro e w1 ⟨rfl, rfl⟩
      go_wp2_with fail
      go_ret
      exact ⟨ret_bool HE.out.symm, rfl⟩
end Go.Proofs.YtalpafaflgddpaaGreatDoor
