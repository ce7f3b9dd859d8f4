/-
  What ScreenOk of the program computes: the same as the reference's.
-/
import Derived.Test.YtjcpocedhaojpaaDoorScrOk
import Derived.Test.YtjcpocedhaojpaaDoorShelf
namespace Go.Proofs.YtjcpocedhaojpaaDoor
open Go.RowKit

def badRune (x : Nat) : Bool := decide (x < 32) || decide (126 < x)

theorem idxFrom_bad (s : ByteArray) : ∀ (f pos : Nat), s.size ≤ pos + f → decide (0 ≤ Lib.idxFuncFrom badRune true s f pos) = !(s.data.toList.drop pos).all byteOk
  | 0, pos, h => by
    rw [List.drop_of_length_le (by rw [← Lib.size_eq]; omega)]
    simp [Lib.idxFuncFrom]
  | f + 1, pos, h => by
    by_cases hp : pos < s.size
    · have hl : pos < s.data.toList.length := by rw [← Lib.size_eq]; exact hp
      have hg : s.data.toList[pos] = s[pos] := rfl
      rw [all_drop _ _ _ hl, hg]
      unfold Lib.idxFuncFrom
      rw [if_pos hp]
      by_cases ha : (s[pos]'hp).toNat < 128
      · rw [decode_ascii s pos hp ha]
        by_cases hb : byteOk (s[pos]'hp) = true
        · have h1 : badRune (s[pos]'hp).toNat = false := by
            simp [byteOk] at hb
            simp [badRune]; omega
          rw [h1, if_neg (by simp), idxFrom_bad s f (pos + 1) (by omega), hb]
          simp
        · have h1 : badRune (s[pos]'hp).toNat = true := by
            simp [byteOk] at hb
            simp [badRune]; omega
          rw [h1, if_pos rfl, Bool.not_eq_true _ |>.mp hb]
          simp
      · have hh := decode_high s pos hp (by omega)
        have h1 : badRune (Utf8.decode s pos).1 = true := by simp [badRune]; omega
        have hb : byteOk (s[pos]'hp) = false := by simp [byteOk]; omega
        rw [h1, if_pos rfl, hb]
        simp
    · rw [List.drop_of_length_le (by rw [← Lib.size_eq]; omega)]
      simp [Lib.idxFuncFrom, hp]

theorem idx_bad (s : ByteArray) : decide (0 ≤ Lib.idxFunc badRune true s) = !s.data.toList.all byteOk := by
  have := idxFrom_bad s s.size 0 (by omega)
  rw [List.drop_zero] at this
  exact this

set_option maxHeartbeats 400000 in
theorem badRune_at (w : World) : PredAt Tryd.prog 19 #[] encR badRune w := fun W x _ => by
  unfold FnGives badRune encR
  by_cases h1 : x < 32
  · go_enter Tryd.func19, Tryd.ntmps19
    go_wp2
    go_ret
    exact ⟨ret_bool (by simp), 0, rfl⟩
  · by_cases h2 : 126 < x
    all_goals
      go_enter Tryd.func19, Tryd.ntmps19
      go_wp2
      go_ret
      exact ⟨ret_bool (by first | (simp; done) | (simp; omega) | (rw [Bool.eq_iff_iff]; simp; omega)), 0, rfl⟩

set_option maxHeartbeats 400000 in
theorem shows_any (s : ByteArray) (w : World) :
    Calls Tryd.prog 18 #[.string s, .func (.func 19) #[] #[]] w fun e w' => e = .returned (.bool (!s.data.toList.all byteOk)) ∧ Below w.heap.size w w' := by
  rw [← idx_bad]
  exact Tryd.strings_ContainsFunc _ _ (enters_of Tryd.func19 (by kernel_rfl) rfl) _ s w (badRune_at w)

set_option maxHeartbeats 1000000 in
theorem implScreenOk_any (r c : Int) (A : Option Addr) (n cap : Nat) (ss : List ByteArray) (w : World) (h : Strs w w.heap.size A n ss) (hn : n ≤ 1048576) :
    Calls Tryd.prog 12 #[.agg #[.int .i64 r, .int .i64 c, .slice A n cap]] w fun e w' => e = .returned (.bool (scrOk r c ss)) ∧ Below w.heap.size w w' := by
  have Hh := Lib.hid h
  have Hlen := Lib.hid h.1
  have HC := Lib.hid h.2
  have hbb : ∀ o, Below w.heap.size w (w.alloc o) := fun o => ((Below.refl _ _).alloc (Nat.le_refl _) o)
  have HB := Lib.hid hbb
  clear h hbb
  by_cases h6 : n = 6
  · subst h6
    cases hr : inB r 0 5
    · have HR := Lib.hid hr
      have HE : Hid (scrOk r c ss = false) := by unfold Hid scrOk; simp [hr]
      clear hr
      go_enter Tryd.func12, Tryd.ntmps12
      go_wp2_with (go_at_call 17; refine (within_any _ _ _ _).mono ?_; rw [HR.out]; rintro e w' ⟨rfl, rfl⟩)
      go_ret
      exact ⟨ret_bool HE.out.symm, HB.out _⟩
    · cases hc : inB c 0 19
      · have HR := Lib.hid hr
        have HC := Lib.hid hc
        have HE : Hid (scrOk r c ss = false) := by unfold Hid scrOk; simp [hc]
        clear hr hc
        go_enter Tryd.func12, Tryd.ntmps12
        go_wp2_with (go_at_call 17; refine (within_any _ _ _ _).mono ?_; (first | rw [HR.out] | rw [HC.out]); rintro e w' ⟨rfl, rfl⟩)
        go_ret
        exact ⟨ret_bool HE.out.symm, HB.out _⟩
      · have HR := Lib.hid hr
        have HCc := Lib.hid hc
        have HE : Hid (scrOk r c ss = ss.all rowOk) := by unfold Hid scrOk; simp [hc, hr, Hlen.out]
        clear hr hc
        go_enter Tryd.func12, Tryd.ntmps12
        go_wp2_with (go_at_call 17; refine (within_any _ _ _ _).mono ?_; (first | rw [HR.out] | rw [HCc.out]); rintro e w' ⟨rfl, rfl⟩)
        clear HR HCc
        go_loopw [24] (fun i wr => ∃ k : Nat, k ≤ 6 ∧ i = .int .i64 k ∧ Below w.heap.size w wr ∧ Hid (ss.all rowOk = (ss.drop k).all rowOk)) (fun i _ => 6 - (intOf i).toNat)
        case atStart => exact ⟨0, by omega, rfl, HB.out _, rfl⟩
        case round =>
          obtain ⟨k, hk, rfl, hbw, hS⟩ := hrel
          by_cases hlt : k < 6
          · obtain ⟨b, o, rfl, hb, hcell⟩ := HC.out (by omega)
            have hck := (hbw.cell (p := ⟨b, o + k, none⟩) hb).trans (hcell k hlt)
            have HS : Hid ((ss.drop k).all rowOk = (rowOk (ss.getD k ByteArray.empty) && (ss.drop (k + 1)).all rowOk)) := by
              have hl : k < ss.length := by rw [Hlen.out]; exact hlt
              unfold Hid
              rw [all_drop _ _ _ hl, List.getD_eq_getElem?_getD, List.getElem?_eq_getElem hl]; rfl
            clear hcell
            generalize ss.getD k ByteArray.empty = s at *
            have HBW := Lib.hid hbw
            clear hbw
            by_cases h20 : s.size = 20
            · have H20 := Lib.hid h20
              have hz1 : s.size ≤ 20 := by omega
              have hz2 : 20 ≤ s.size := by omega
              have hb20 : ((s.size : Int) != 20) = false := by rw [bne_eq_false_iff_eq]; omega
              clear h20
              go_wp2_with fail
              refine (shows_any s _).mono ?_
              rintro e w1 ⟨rfl, hb1⟩
              have HB1 := Lib.hid (HBW.out.trans (hb1.mono HBW.out.size))
              clear hb1
              cases hx : s.data.toList.all byteOk
              · have HX := Lib.hid hx
                clear hx
                go_wp2_with fail
                go_ret
                exact ⟨ret_bool (by rw [HE.out, hS.out, HS.out]; unfold rowOk; rw [HX.out]; simp), HB1.out⟩
              · have HX := Lib.hid hx
                clear hx
                go_wp2_with fail
                go_roundw
                case rel => exact ⟨k + 1, by omega, by go_num, HB1.out, by unfold Hid; rw [hS.out, HS.out]; unfold rowOk; rw [HX.out]; simp [H20.out]⟩
                case measure => simp [intOf]; omega
            · have H20 := Lib.hid h20
              have hb20 : ((s.size : Int) != 20) = true := by rw [bne_iff_ne]; omega
              clear h20
              go_wp2_with fail
              go_ret
              exact ⟨ret_bool (by rw [HE.out, hS.out, HS.out]; unfold rowOk; simp [H20.out]), HBW.out⟩
          · obtain rfl : k = 6 := by omega
            have HBW := Lib.hid hbw
            clear hbw
            go_wp2_with fail
            go_ret
            exact ⟨ret_bool (by rw [HE.out, hS.out, List.drop_of_length_le (by rw [Hlen.out]; exact Nat.le_refl _)]; rfl), HBW.out⟩
  · have HE : Hid (scrOk r c ss = false) := by unfold Hid scrOk; simp [Hlen.out, h6]
    have hb : ((n : Int) != 6) = true := by rw [bne_iff_ne]; omega
    clear h6
    go_enter Tryd.func12, Tryd.ntmps12
    go_wp2_with fail
    go_ret
    exact ⟨ret_bool HE.out.symm, HB.out _⟩
end Go.Proofs.YtjcpocedhaojpaaDoor
