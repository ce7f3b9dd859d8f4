/-
  FnExactScreenText returns true for every screen, and leaves its argument as it was. No condition.
-/
import Derived.Test.YtjcpocedhaojpaaDoorScrText
import Derived.Deep.RegionHeld3
namespace Go.Proofs.YtjcpocedhaojpaaDoor
open Go.RowKit

theorem Strs.of_heap {w : World} {g t : Nat} {ss : List ByteArray} (h : w.heap[g]? = some (.cells (strArr ss) t (0, 0))) (hg : g < w.heap.size) : Strs w w.heap.size (some ⟨g, 0, none⟩) ss.length ss :=
  ⟨rfl, fun _ => ⟨g, 0, rfl, hg, fun j hj => by rw [Nat.zero_add, cell_of_row _ g j (strArr ss) t (0, 0) h, strArr_at ss j hj]⟩⟩
theorem lt_of_heap {w : World} {g : Nat} {o : Obj} (h : w.heap[g]? = some o) : g < w.heap.size := by
  rcases Nat.lt_or_ge g w.heap.size with hlt | hge
  · exact hlt
  · rw [Array.getElem?_eq_none hge] at h; cases h

theorem eqScr_self (r c : Int) (ss : List ByteArray) : eqScr r c ss r c ss = true := by simp [eqScr, eqS]

set_option maxHeartbeats 1000000 in
theorem fnExactScreenText_walk (r c : Int) (A : Option Addr) (n cap : Nat) (ss : List ByteArray) (w : World) (h : Strs w w.heap.size A n ss) (hz : ∀ s ∈ ss, s.size ≤ maxLen) (hn : n ≤ maxLen) :
    Calls Tryd.prog 3 #[.agg #[.int .i64 r, .int .i64 c, .slice A n cap]] w fun e w' => e = .returned (.bool true) ∧ Below w.heap.size w w' := by
  have Hh := Lib.hid h
  have Hz := Lib.hid hz
  have Hn := Lib.hid hn
  clear h hz hn
  go_enter Tryd.func3, Tryd.ntmps3
  go_wp2_with fail
  refine (szScreen_any r c A n cap ss 1048576 _ (Hh.out.alloc _) (by omega) (by omega) Hz.out Hn.out).mono ?_
  rintro e w1 ⟨rfl, hb1⟩
  have hx := szS_ge ss 1048576 (by omega)
  by_cases hneg : szS ss 1048576 < 0
  · have HB1 := Lib.hid ((Below.new _ _).later hb1)
    clear hb1
    generalize szS ss 1048576 = x at *
    go_wp2_with fail
    go_ret
    exact ⟨rfl, HB1.out⟩
  · obtain ⟨hr1, hr2⟩ := szS_room ss 1048576 (by omega)
    have hn2 : n ≤ 1048576 := by rw [← Hh.out.1]; omega
    clear hr1 hr2
    generalize szS ss 1048576 = x at *
    have c0 := box_at hb1 0
    have c1 := box_at hb1 1
    have c2 := box_at hb1 2
    have HB1 := Lib.hid hb1
    clear hb1
    go_wp2_with fail
    refine (toScreen_any r c A n cap ss _ ((Hh.out.alloc _).later HB1.out) hn2).mono ?_
    rintro e w2 ⟨g2, rfl, hg2, hge2, hb2⟩
    clear c0 c1 c2
    have HS2 := Lib.hid (Strs.of_heap hg2 (lt_of_heap hg2))
    have HB2 := Lib.hid (HB1.out.later hb2)
    clear hb2 HB1 hg2 hge2
    rw [Hh.out.1] at HS2
    go_wp2_with fail
    refine (specScreenText_any r c _ n n ss _ HS2.out hn2).mono ?_
    rintro e w3 ⟨rfl, hb3⟩
    have HB3 := Lib.hid (HB2.out.later hb3)
    clear HB2 HS2 hb3
    have c0 := box_at HB3.out 0
    have c1 := box_at HB3.out 1
    have c2 := box_at HB3.out 2
    go_wp2_with fail
    refine (toScreen_any r c A n cap ss _ ((Hh.out.alloc _).later HB3.out) hn2).mono ?_
    rintro e w4 ⟨g4, rfl, hg4, hge4, hb4⟩
    clear c0 c1 c2
    have HS4 := Lib.hid (Strs.of_heap hg4 (lt_of_heap hg4))
    have HB4 := Lib.hid (HB3.out.later hb4)
    clear hb4 HB3 hg4 hge4
    rw [Hh.out.1] at HS4
    go_wp2_with fail
    refine (implScreenText_any r c _ n n ss _ (HS4.out.alloc _) hn2).mono ?_
    rintro e w5 ⟨rfl, hb5⟩
    have d0 := box_at hb5 0
    have d1 := box_at hb5 1
    have d2 := box_at hb5 2
    have HB5 := Lib.hid (HB4.out.later ((Below.new _ _).later hb5))
    have HS5 := Lib.hid ((HS4.out.alloc _).later hb5)
    clear HB4 HS4 hb5
    have c0 := box_at HB5.out 0
    have c1 := box_at HB5.out 1
    have c2 := box_at HB5.out 2
    generalize textOf r c ss = y at *
    have HA := Lib.hid ((Hh.out.alloc _).later HB5.out)
    go_wp2_with fail
    go_region_held3 (fun w' => w'.cell? ⟨w4.heap.size, 0, none⟩ = some (.int .i64 r) ∧ w'.cell? ⟨w4.heap.size, 1, none⟩ = some (.int .i64 c) ∧ w'.cell? ⟨w4.heap.size, 2, none⟩ = some (.slice (some ⟨g4, 0, none⟩) n n) ∧ w'.cell? ⟨w.heap.size, 0, none⟩ = some (.int .i64 r) ∧ w'.cell? ⟨w.heap.size, 1, none⟩ = some (.int .i64 c) ∧ w'.cell? ⟨w.heap.size, 2, none⟩ = some (.slice A n cap)) (first | exact ⟨d0, d1, d2, c0, c1, c2⟩ | exact ⟨cell_later hb6 d0, cell_later hb6 d1, cell_later hb6 d2, cell_later hb6 c0, cell_later hb6 c1, cell_later hb6 c2⟩ | exact ⟨cell_later hb7 d0, cell_later hb7 d1, cell_later hb7 d2, cell_later hb7 c0, cell_later hb7 c1, cell_later hb7 c2⟩)
      (first
        | (go_at_call 6; refine (toScreen_any r c A n cap ss _ (by exact HA.out) hn2).mono ?_; rintro e w6 ⟨g6, rfl, hg6, hge6, hb6'⟩; have hb6 := undrew hb6'; clear hb6'; have HG6 := Lib.hid hg6; clear hg6)
        | (go_at_call 8; refine (eqScreen_any r c r c _ _ n n n n ss ss _ (by exact (HS5.out.later hb6)) (by exact (by have := Strs.of_heap HG6.out (lt_of_heap HG6.out); rw [Hh.out.1] at this; exact this)) hn2 hn2).mono ?_; rw [eqScr_self]; rintro e w7 ⟨rfl, hb7'⟩; have hb7 : Below w5.heap.size w5 w7 := hb6.later hb7'; clear hb7' HG6))
    have HB7 := Lib.hid ((Below.new _ _).later (HB5.out.later hb7))
    clear hb7 hb6 HB5 HS5 HA
    go_wp2_with fail
    go_ret
    exact ⟨rfl, HB7.out⟩
end Go.Proofs.YtjcpocedhaojpaaDoor
