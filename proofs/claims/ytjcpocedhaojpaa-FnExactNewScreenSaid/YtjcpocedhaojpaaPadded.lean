/-
  What Padded of the reference and of the program compute: one and the same text.
-/
import Derived.Test.YtjcpocedhaojpaaBlanks
import Derived.Test.YtjcpocedhaojpaaShelf
namespace Go.Proofs.Ytjcpocedhaojpaa
open Go.RowKit

def padded (s : ByteArray) (wide : Int) : ByteArray := if 80 < s.size ∨ 80 < wide then ⟨#[]⟩ else ⟨(blanks (wide - s.size).toNat).toArray⟩ ++ s

theorem ret_str {a b : ByteArray} (h : a = b) : Ending.returned (.string a) = .returned (.string b) := by rw [h]
theorem blanks_zero : blanks 0 = [] := rfl
theorem nil_append_bytes (s : ByteArray) : (⟨#[]⟩ : ByteArray) ++ s = s := by
  apply ByteArray.ext; simp

set_option maxHeartbeats 400000 in
theorem specPadded_any (s : ByteArray) (wide : Int) (w : World) (hs : s.size ≤ 1048576) (hw : -9223372036854775808 ≤ wide) :
    Calls Try.prog 12 #[.string s, .int .i64 wide] w fun e w' => e = .returned (.string (padded s wide)) ∧ Below w.heap.size w w' := by
  by_cases h1 : 80 < s.size
  · have HE : Hid (padded s wide = ⟨#[]⟩) := if_pos (.inl h1)
    have h1' : (80 : Int) < s.size := by omega
    go_enter Try.func12, Try.ntmps12
    go_wp2
    go_ret
    exact ⟨ret_str HE.out.symm, Below.refl _ _⟩
  · by_cases h2 : 80 < wide
    · have HE : Hid (padded s wide = ⟨#[]⟩) := if_pos (.inr h2)
      go_enter Try.func12, Try.ntmps12
      go_wp2
      go_ret
      exact ⟨ret_str HE.out.symm, Below.refl _ _⟩
    · by_cases h3 : wide ≤ s.size
      · have HE : Hid (padded s wide = s) := by
          unfold Hid padded
          rw [if_neg (by omega), show (wide - s.size).toNat = 0 from by omega, blanks_zero]
          exact nil_append_bytes s
        go_enter Try.func12, Try.ntmps12
        go_wp2
        go_ret
        exact ⟨ret_str HE.out.symm, Below.refl _ _⟩
      · obtain ⟨k, hk⟩ : ∃ k : Nat, wide - s.size = k := ⟨(wide - s.size).toNat, by omega⟩
        have HE : Hid (padded s wide = ⟨(blanks k).toArray⟩ ++ s) := by
          unfold Hid padded
          rw [if_neg (by omega), hk]; rfl
        have hk2 : k ≤ 1048576 := by omega
        have HK := Lib.hid hk
        clear hk
        go_enter Try.func12, Try.ntmps12
        go_wp2_with fail
        rw [HK.out]
        refine (l31Blanks_any k _ hk2).mono ?_
        rintro e w1 ⟨rfl, hb⟩
        have HB := Lib.hid hb
        clear hb
        have hl : (blanks k).length ≤ 1048576 := by rw [blanks_len]; exact hk2
        generalize blanks k = l at *
        go_wp2_with fail
        go_ret
        exact ⟨ret_str HE.out.symm, HB.out⟩

theorem repeat_blank (k : Nat) : Lib.repeatL [32] k = blanks k := by
  induction k with
  | zero => rfl
  | succ k ih => simp [Lib.repeatL, blanks, List.replicate_succ] at *; try exact ih

set_option maxHeartbeats 400000 in
theorem implPadded_any (s : ByteArray) (wide : Int) (w : World) (hs : s.size ≤ 1048576) (hw : -9223372036854775808 ≤ wide) :
    Calls Try.prog 13 #[.string s, .int .i64 wide] w fun e w' => e = .returned (.string (padded s wide)) ∧ Below w.heap.size w w' := by
  by_cases h1 : 80 < s.size
  · have HE : Hid (padded s wide = ⟨#[]⟩) := if_pos (.inl h1)
    have h1' : (80 : Int) < s.size := by omega
    go_enter Try.func13, Try.ntmps13
    go_wp2
    go_ret
    exact ⟨ret_str HE.out.symm, Below.refl _ _⟩
  · by_cases h2 : 80 < wide
    · have HE : Hid (padded s wide = ⟨#[]⟩) := if_pos (.inr h2)
      go_enter Try.func13, Try.ntmps13
      go_wp2
      go_ret
      exact ⟨ret_str HE.out.symm, Below.refl _ _⟩
    · obtain ⟨k, hk⟩ : ∃ k : Nat, (wide - s.size).toNat = k := ⟨(wide - s.size).toNat, by omega⟩
      have HE : Hid (padded s wide = ⟨(blanks k).toArray⟩ ++ s) := by
        unfold Hid padded
        rw [if_neg (by omega), hk]
      have hk2 : k ≤ 1048576 := by omega
      have HK := Lib.hid hk
      clear hk
      go_enter Try.func13, Try.ntmps13
      go_wp2_with fail
      rw [show max 0 (max 0 wide - (s.size : Int)) = (k : Int) from by have := HK.out; omega]
      refine (Try.strings_Repeat ⟨#[32]⟩ k _ (by omega) (by show 1 * k ≤ _; omega)).mono ?_
      rintro e w1 ⟨rfl, hb⟩
      have HB := Lib.hid hb
      clear hb
      have e1 : Lib.repeatL (⟨#[32]⟩ : ByteArray).data.toList k = blanks k := repeat_blank k
      rw [e1]
      clear e1
      have hl : (blanks k).length ≤ 1048576 := by rw [blanks_len]; exact hk2
      generalize blanks k = l at *
      go_wp2_with fail
      go_ret
      exact ⟨ret_str HE.out.symm, HB.out⟩

set_option maxHeartbeats 400000 in
theorem fnExactPadded_walk (s : ByteArray) (wide : Int) (w : World) (hs : s.size ≤ maxLen) (hw : -9223372036854775808 ≤ wide) :
    Calls Try.prog 4 #[.string s, .int .i64 wide] w fun e w' => e = .returned (.bool true) ∧ Below w.heap.size w w' := by
  unfold maxLen at hs
  by_cases h1 : 1048576 < s.size
  · go_enter Try.func4, Try.ntmps4
    go_wp2_with fail
    go_ret
    exact ⟨rfl, Below.refl _ _⟩
  · have h2 : s.size ≤ 1048576 := by omega
    clear h1
    go_enter Try.func4, Try.ntmps4
    go_wp2_with fail
    refine (specPadded_any s wide _ h2 hw).mono ?_
    rintro e w1 ⟨rfl, hb1⟩
    have HB1 := Lib.hid hb1
    clear hb1
    go_wp2_with fail
    refine (implPadded_any s wide _ h2 hw).mono ?_
    rintro e w2 ⟨rfl, hb2⟩
    have HB2 := Lib.hid (HB1.out.later hb2)
    clear hb2
    generalize padded s wide = x at *
    go_wp2_with fail
    go_ret
    exact ⟨rfl, HB2.out⟩
end Go.Proofs.Ytjcpocedhaojpaa
