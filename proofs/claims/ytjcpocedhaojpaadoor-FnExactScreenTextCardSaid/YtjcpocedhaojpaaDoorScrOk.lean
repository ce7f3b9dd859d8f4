/-
  What ScreenOk of the reference computes, of screens by value.
-/
import Derived.Test.YtjcpocedhaojpaaDoorScr
namespace Go.Proofs.YtjcpocedhaojpaaDoor
open Go.RowKit

def byteOk (b : UInt8) : Bool := decide (32 ≤ b.toNat) && decide (b.toNat ≤ 126)
def rowOk (s : ByteArray) : Bool := decide (s.size = 20) && s.data.toList.all byteOk
def inB (n low high : Int) : Bool := decide (low ≤ n) && decide (n ≤ high)
def scrOk (r c : Int) (ss : List ByteArray) : Bool := decide (ss.length = 6) && inB r 0 5 && inB c 0 19 && ss.all rowOk

set_option maxHeartbeats 400000 in
theorem l00In_any (n low high : Int) (w : World) :
    Calls Tryd.prog 15 #[.int .i64 n, .int .i64 low, .int .i64 high] w fun e w' => e = .returned (.bool (inB n low high)) ∧ w = w' := by
  unfold inB
  by_cases h1 : low ≤ n
  · by_cases h2 : n ≤ high
    all_goals
      go_enter Tryd.func15, Tryd.ntmps15
      go_wp2
      go_ret
      exact ⟨ret_bool (by first | (simp; done) | (simp; omega) | (rw [Bool.eq_iff_iff]; simp; omega)), rfl⟩
  · go_enter Tryd.func15, Tryd.ntmps15
    go_wp2
    go_ret
    exact ⟨ret_bool (by first | (simp; done) | (simp; omega) | (rw [Bool.eq_iff_iff]; simp; omega)), rfl⟩

set_option maxHeartbeats 400000 in
theorem within_any (n low high : Int) (w : World) :
    Calls Tryd.prog 17 #[.int .i64 n, .int .i64 low, .int .i64 high] w fun e w' => e = .returned (.bool (inB n low high)) ∧ w = w' := by
  unfold inB
  by_cases h1 : low ≤ n
  · by_cases h2 : n ≤ high
    all_goals
      go_enter Tryd.func17, Tryd.ntmps17
      go_wp2
      go_ret
      exact ⟨ret_bool (by first | (simp; done) | (simp; omega) | (rw [Bool.eq_iff_iff]; simp; omega)), rfl⟩
  · go_enter Tryd.func17, Tryd.ntmps17
    go_wp2
    go_ret
    exact ⟨ret_bool (by first | (simp; done) | (simp; omega) | (rw [Bool.eq_iff_iff]; simp; omega)), rfl⟩

set_option maxHeartbeats 400000 in
theorem l22Shows_any (b : UInt8) (w : World) :
    Calls Tryd.prog 16 #[.int .u8 b.toNat] w fun e w' => e = .returned (.bool (byteOk b)) ∧ w = w' := by
  unfold byteOk
  generalize b.toNat = n
  by_cases h1 : 32 ≤ n
  · by_cases h2 : n ≤ 126
    all_goals
      go_enter Tryd.func16, Tryd.ntmps16
      go_wp2
      go_ret
      exact ⟨ret_bool (by first | (simp; done) | (simp; omega) | (rw [Bool.eq_iff_iff]; simp; omega)), rfl⟩
  · go_enter Tryd.func16, Tryd.ntmps16
    go_wp2
    go_ret
    exact ⟨ret_bool (by first | (simp; done) | (simp; omega) | (rw [Bool.eq_iff_iff]; simp; omega)), rfl⟩

theorem all_drop {α : Type} (p : α → Bool) (l : List α) (k : Nat) (h : k < l.length) : (l.drop k).all p = (p l[k] && (l.drop (k + 1)).all p) := by
  rw [List.drop_eq_getElem_cons h]; rfl

set_option maxHeartbeats 1000000 in
theorem specScreenOk_any (r c : Int) (A : Option Addr) (n cap : Nat) (ss : List ByteArray) (w : World) (h : Strs w w.heap.size A n ss) (hn : n ≤ 1048576) :
    Calls Tryd.prog 10 #[.agg #[.int .i64 r, .int .i64 c, .slice A n cap]] w fun e w' => e = .returned (.bool (scrOk r c ss)) ∧ Below w.heap.size w w' := by
  have Hh := Lib.hid h
  have Hlen := Lib.hid h.1
  have HC := Lib.hid h.2
  have hbb : ∀ o, Below w.heap.size w (w.alloc o) := fun o => ((Below.refl _ _).alloc (Nat.le_refl _) o)
  have HB := Lib.hid hbb
  clear h hbb
  by_cases h6 : n = 6
  · subst h6
    cases hr : inB r 0 5
    · have HR := Lib.hid hr
      have HE : Hid (scrOk r c ss = false) := by unfold Hid scrOk; simp [hr]
      clear hr
      go_enter Tryd.func10, Tryd.ntmps10
      go_wp2_with (go_at_call 15; refine (l00In_any _ _ _ _).mono ?_; rw [HR.out]; rintro e w' ⟨rfl, rfl⟩)
      go_ret
      exact ⟨ret_bool HE.out.symm, HB.out _⟩
    · cases hc : inB c 0 19
      · have HR := Lib.hid hr
        have HC := Lib.hid hc
        have HE : Hid (scrOk r c ss = false) := by unfold Hid scrOk; simp [hc]
        clear hr hc
        go_enter Tryd.func10, Tryd.ntmps10
        go_wp2_with (go_at_call 15; refine (l00In_any _ _ _ _).mono ?_; (first | rw [HR.out] | rw [HC.out]); rintro e w' ⟨rfl, rfl⟩)
        go_ret
        exact ⟨ret_bool HE.out.symm, HB.out _⟩
      · have HR := Lib.hid hr
        have HCc := Lib.hid hc
        have HE : Hid (scrOk r c ss = ss.all rowOk) := by unfold Hid scrOk; simp [hc, hr, Hlen.out]
        clear hr hc
        go_enter Tryd.func10, Tryd.ntmps10
        go_wp2_with (go_at_call 15; refine (l00In_any _ _ _ _).mono ?_; (first | rw [HR.out] | rw [HCc.out]); rintro e w' ⟨rfl, rfl⟩)
        clear HR HCc
        go_loop [3] (fun i => ∃ k : Nat, k ≤ 6 ∧ i = .int .i64 k ∧ Hid (ss.all rowOk = (ss.drop k).all rowOk)) (fun i => 6 - (intOf i).toNat)
        case atStart => exact ⟨0, by omega, rfl, rfl⟩
        case round =>
          obtain ⟨k, hk, rfl, hS⟩ := hrel
          by_cases hlt : k < 6
          · obtain ⟨b, o, rfl, hb, hcell⟩ := HC.out (by omega)
            have hck := hcell k hlt
            have HS : Hid ((ss.drop k).all rowOk = (rowOk (ss.getD k ByteArray.empty) && (ss.drop (k + 1)).all rowOk)) := by
              have hl : k < ss.length := by rw [Hlen.out]; exact hlt
              unfold Hid
              rw [all_drop _ _ _ hl, List.getD_eq_getElem?_getD, List.getElem?_eq_getElem hl]; rfl
            clear hcell
            generalize ss.getD k ByteArray.empty = s at *
            by_cases h20 : s.size = 20
            · have H20 := Lib.hid h20
              have hz1 : s.size ≤ 20 := by omega
              have hz2 : 20 ≤ s.size := by omega
              have hb20 : ((s.size : Int) != 20) = false := by rw [bne_eq_false_iff_eq]; omega
              clear h20
              go_wp2_with fail
              go_loop [4] (fun i => ∃ m : Nat, m ≤ s.size ∧ i = .int .i64 m ∧ Hid (s.data.toList.all byteOk = (s.data.toList.drop m).all byteOk)) (fun i => s.size - (intOf i).toNat)
              case atStart => exact ⟨0, by omega, rfl, rfl⟩
              case round =>
                obtain ⟨m, hm, rfl, hT⟩ := hrel
                by_cases hlt2 : m < s.size
                · have HT : Hid ((s.data.toList.drop m).all byteOk = (byteOk s[m] && (s.data.toList.drop (m + 1)).all byteOk)) := all_drop _ _ _ (by simpa using hlt2)
                  go_wp2_with fail
                  refine (l22Shows_any s[m] _).mono ?_
                  rintro e w' ⟨rfl, rfl⟩
                  cases hx : byteOk s[m]
                  · have HX := Lib.hid hx
                    clear hx
                    go_wp2_with fail
                    go_ret
                    exact ⟨ret_bool (by rw [HE.out, hS.out, HS.out]; unfold rowOk; rw [hT.out, HT.out, HX.out]; simp), HB.out _⟩
                  · have HX := Lib.hid hx
                    clear hx
                    go_wp2_with fail
                    go_round
                    case rel => exact ⟨m + 1, by omega, by go_num, by unfold Hid; rw [hT.out, HT.out, HX.out]; rfl⟩
                    case measure => simp [intOf]; omega
                · go_wp2_with fail
                  go_round
                  case rel => exact ⟨k + 1, by omega, by go_num, by unfold Hid; rw [hS.out, HS.out]; unfold rowOk; rw [hT.out, List.drop_of_length_le (by rw [← Lib.size_eq]; omega)]; simp [H20.out]⟩
                  case measure => simp [intOf]; omega
            · have H20 := Lib.hid h20
              have hb20 : ((s.size : Int) != 20) = true := by rw [bne_iff_ne]; omega
              clear h20
              go_wp2_with fail
              go_ret
              exact ⟨ret_bool (by rw [HE.out, hS.out, HS.out]; unfold rowOk; simp [H20.out]), HB.out _⟩
          · obtain rfl : k = 6 := by omega
            go_wp2_with fail
            go_ret
            exact ⟨ret_bool (by rw [HE.out, hS.out, List.drop_of_length_le (by rw [Hlen.out]; exact Nat.le_refl _)]; rfl), HB.out _⟩
  · have HE : Hid (scrOk r c ss = false) := by unfold Hid scrOk; simp [Hlen.out, h6]
    have hb : ((n : Int) != 6) = true := by rw [bne_iff_ne]; omega
    clear h6
    go_enter Tryd.func10, Tryd.ntmps10
    go_wp2_with fail
    go_ret
    exact ⟨ret_bool HE.out.symm, HB.out _⟩
end Go.Proofs.YtjcpocedhaojpaaDoor
