/-
  Tables and queries of the program: what cellOk, condOk and slices.Index, slices.Contains at strings compute.
-/
import Derived.Test.YtalpafaflgddpaaGreatDoorQr1
import Derived.Test.YtalpafaflgddpaaGreatDoorIterP
import Derived.Lib.TrimUEq
import Derived.Shelf.GgClosure.StringsIndexFuncTop
namespace Go.Proofs.YtalpafaflgddpaaGreatDoor
open Go.RowKit

theorem place_idx : ∀ (l : List ByteArray) (x : ByteArray) (k : Nat), Lib.idxFromS l x k = idxS (fun y => decide (y = x)) l k
  | [], _, _ => rfl
  | s :: r, x, k => by
    have := place_idx r x (k + 1)
    by_cases e : s = x
    · simp [Lib.idxFromS, idxS, e]
    · simp [Lib.idxFromS, idxS, e, this]
theorem place_eq (l : List ByteArray) (x : ByteArray) : Lib.idxOfS l x = placeI l x := place_idx l x 0
theorem IndexS_any (A : Option Addr) (n c : Nat) (ss : List ByteArray) (x : ByteArray) (w : World) (h : Strs w w.heap.size A n ss) (hn : n ≤ 1048576) :
    Calls Tryz.prog 114 #[.slice A n c, .string x] w fun e w' => e = .returned (.int .i64 (placeI ss x)) ∧ w = w' := by
  rcases Nat.eq_zero_or_pos n with h0 | h0
  · subst h0
    obtain rfl : ss = [] := List.eq_nil_of_length_eq_zero h.1
    exact (Tryz.slices_Index_string_empty A c x w).mono fun e w' ⟨he, hw⟩ => ⟨by rw [he, place_eq], hw.symm⟩
  · obtain ⟨b, o, rfl, hb, hc⟩ := h.2 h0
    have hl := h.1
    refine (Tryz.slices_Index_string b o n c ss x w (by omega) (by omega) (fun j hj => hc j (by omega))).mono fun e w' ⟨he, hw⟩ => ⟨?_, hw.symm⟩
    rw [he, List.take_of_length_le (by omega), place_eq]
theorem ContainsS_any (A : Option Addr) (n c : Nat) (ss : List ByteArray) (x : ByteArray) (w : World) (h : Strs w w.heap.size A n ss) (hn : n ≤ 1048576) :
    Calls Tryz.prog 73 #[.slice A n c, .string x] w fun e w' => e = .returned (.bool (decide (0 ≤ placeI ss x))) ∧ w = w' := by
  rcases Nat.eq_zero_or_pos n with h0 | h0
  · subst h0
    obtain rfl : ss = [] := List.eq_nil_of_length_eq_zero h.1
    exact (Tryz.slices_Contains_string_empty A c x w).mono fun e w' ⟨he, hw⟩ => ⟨by rw [he]; rfl, hw.symm⟩
  · obtain ⟨b, o, rfl, hb, hc⟩ := h.2 h0
    have hl := h.1
    refine (Tryz.slices_Contains_string b o n c ss x w (by omega) (by omega) (fun j hj => hc j (by omega))).mono fun e w' ⟨he, hw⟩ => ⟨?_, hw.symm⟩
    rw [he, List.take_of_length_le (by omega), Lib.containsS, place_eq]

/-- The runes that cellOk does not bear. -/
def badR (r : Nat) : Bool := decide (r < 32) || (decide (126 < r) || decide (r = 94))
set_option maxHeartbeats 1000000 in
theorem cellOk1_any (r : Nat) (w : World) :
    Calls Tryz.prog 180 #[.int .i32 r] w fun e w' => e = .returned (.bool (badR r)) ∧ w = w' := by
  have HR : Hid (badR r = (decide (r < 32) || (decide (126 < r) || decide (r = 94)))) := rfl
  generalize badR r = R at *
  by_cases h1 : r < 32
  · have HE : Hid (R = true) := by unfold Hid; rw [HR.out, decide_eq_true h1]; rfl
    go_enter Tryz.func180, Tryz.ntmps180
    go_wp2_with fail
    go_ret
    exact ⟨ret_bool HE.out.symm, rfl⟩
  · by_cases h2 : 126 < r
    · have HE : Hid (R = true) := by unfold Hid; rw [HR.out, decide_eq_true h2]; simp
      go_enter Tryz.func180, Tryz.ntmps180
      go_wp2_with fail
      go_ret
      exact ⟨ret_bool HE.out.symm, rfl⟩
    · by_cases h3 : r = 94
      · have HE : Hid (R = true) := by unfold Hid; rw [HR.out, decide_eq_true h3]; simp
        subst h3
        go_enter Tryz.func180, Tryz.ntmps180
        go_wp2_with fail
        go_ret
        exact ⟨ret_bool HE.out.symm, rfl⟩
      · have HE : Hid (R = false) := by unfold Hid; rw [HR.out, decide_eq_false h1, decide_eq_false h2, decide_eq_false h3]; rfl
        have hb : ((r : Int) == 94) = false := by rw [beq_eq_false_iff_ne]; omega
        have hb2 : (r == 94) = false := by rw [beq_eq_false_iff_ne]; omega
        clear h3
        go_enter Tryz.func180, Tryz.ntmps180
        go_wp2_with fail
        go_ret
        exact ⟨ret_bool (by rw [HE.out]; first | rfl | (simp; done) | (simp; omega)), rfl⟩
theorem decodeN_big (n b0 b1 b2 b3 : Nat) (h : 128 ≤ b0) : 126 < (Lib.decodeN n b0 b1 b2 b3).1 := by
  unfold Lib.decodeN
  repeat' split
  all_goals (first | omega | (simp_all; omega) | (simp_all))
theorem badR_cell (c : UInt8) : badR c.toNat = !cellC c := by
  unfold badR cellC
  by_cases h1 : c.toNat < 32
  · rw [decide_eq_true h1, decide_eq_false (show ¬ 32 ≤ c.toNat by omega)]; rfl
  · by_cases h2 : 126 < c.toNat
    · rw [decide_eq_true h2, decide_eq_false (show ¬ c.toNat ≤ 126 by omega)]; simp
    · by_cases h3 : c.toNat = 94
      · rw [decide_eq_true h3, decide_eq_false (show ¬ c.toNat ≠ 94 from fun h => h h3)]; simp
      · rw [decide_eq_false h1, decide_eq_false h2, decide_eq_false h3, decide_eq_true (show 32 ≤ c.toNat by omega), decide_eq_true (show c.toNat ≤ 126 by omega), decide_eq_true (show c.toNat ≠ 94 from h3)]; rfl
theorem idx_cell (s : ByteArray) : ∀ (f pos : Nat), s.size - pos ≤ f → decide (0 ≤ Lib.idxFuncFrom badR true s f pos) = !((s.data.toList.drop pos).all cellC)
  | 0, pos, h => by
    rw [List.drop_of_length_le (by have : s.data.toList.length = s.size := Array.length_toList
                                   omega)]
    rfl
  | f + 1, pos, h => by
    unfold Lib.idxFuncFrom
    by_cases hp : pos < s.size
    · rw [if_pos hp]
      have hd := drop_cons s pos hp
      rw [hd, List.all_cons]
      have hg : (s.data.toList.getD pos 0).toNat = s[pos].toNat := by
        have hl : pos < s.data.toList.length := by rw [Array.length_toList]; exact hp
        rw [List.getD_eq_getElem?_getD, List.getElem?_eq_getElem hl]
        rfl
      by_cases ha : s[pos].toNat < 128
      · have hdec : Utf8.decode s pos = (s[pos].toNat, 1) := by rw [Lib.decode_N, hg, Lib.decodeN_ascii _ _ _ _ _ ha]
        rw [hdec]
        simp only []
        rw [badR_cell]
        cases hc : cellC s[pos]
        · simp
        · simp only [Bool.not_true, Bool.false_eq_true, if_false]
          rw [idx_cell s f (pos + 1) (by omega)]
          simp
      · have hdec : 126 < (Utf8.decode s pos).1 := by rw [Lib.decode_N, hg]; exact decodeN_big _ _ _ _ _ (by omega)
        have hb : badR (Utf8.decode s pos).1 = true := by unfold badR; rw [decide_eq_true hdec]; simp
        have hc : cellC s[pos] = false := by unfold cellC; rw [decide_eq_false (show ¬ s[pos].toNat ≤ 126 by omega)]; simp
        rw [hb, if_pos rfl, hc]
        simp
    · rw [if_neg hp, List.drop_of_length_le (by have : s.data.toList.length = s.size := Array.length_toList
                                                omega)]
      rfl
set_option maxHeartbeats 1000000 in
theorem cellOk_any (s : ByteArray) (w : World) (hs : s.size ≤ 1048576) :
    Calls Tryz.prog 155 #[.string s] w fun e w' => e = .returned (.bool (cellB s)) ∧ Below w.heap.size w w' := by
  have hp : PredAt Tryz.prog 180 #[] encR badR w := fun W x _ => (cellOk1_any x W).mono fun e w' ⟨he, hw⟩ => by
    subst hw
    exact ⟨he, 0, rfl⟩
  have HK := Lib.hid (Tryz.strings_ContainsFunc 180 #[] (enters_of Tryz.func180 (by kernel_rfl) rfl) badR s w hp)
  have HR : Hid (cellB s = (s.data.toList.all cellC && decide (s.size ≤ 11))) := rfl
  have HI : Hid (decide (0 ≤ Lib.idxFunc badR true s) = !(s.data.toList.all cellC)) := idx_cell s s.size 0 (by omega)
  clear hp
  rw [HI.out] at HK
  generalize cellB s = R at *
  generalize s.data.toList.all cellC = x at *
  by_cases h11 : s.size ≤ 11
  · have HE : Hid (R = x) := by unfold Hid; rw [HR.out, decide_eq_true h11, Bool.and_true]
    go_enter Tryz.func155, Tryz.ntmps155
    go_wp2_with fail
    refine HK.out.mono ?_
    rintro e w1 ⟨rfl, hb1⟩
    have HB := Lib.hid hb1
    clear hb1
    cases x
    all_goals
      go_wp2_with fail
      go_ret
      exact ⟨ret_bool HE.out.symm, HB.out⟩
  · have HE : Hid (R = false) := by unfold Hid; rw [HR.out, decide_eq_false h11]; simp
    go_enter Tryz.func155, Tryz.ntmps155
    go_wp2_with fail
    go_ret
    exact ⟨ret_bool HE.out.symm, Below.refl _ _⟩
end Go.Proofs.YtalpafaflgddpaaGreatDoor
