/-
  FnExactNewScreen returns true. No condition.
-/
import Derived.Test.YtjcpocedhaojpaaNewScr2
namespace Go.Proofs.Ytjcpocedhaojpaa
open Go.RowKit

theorem eqScr_same (r c : Int) (ss : List ByteArray) : eqScr r c ss r c ss = true := by simp [eqScr, eqS]

set_option maxHeartbeats 2000000 in
theorem fnExactNewScreen_walk (w : World) :
    Calls Try.prog 6 #[] w fun e w' => e = .returned (.bool true) ∧ Below w.heap.size w w' := by
  go_enter Try.func6, Try.ntmps6
  go_wp2_with fail
  refine (specNewScreen_any w).mono ?_
  rintro e w1 ⟨g1, cap1, rfl, hO1, hge1, hb1⟩
  have HO1 := Lib.hid hO1
  have HB1 := Lib.hid hb1
  have z1 : g1 < w1.heap.size := by obtain ⟨o, _, cs, hk, _⟩ := hO1.2 (by omega); exact hk.lt
  clear hO1 hb1
  go_wp2_with fail
  refine (implNewScreen_any _).mono ?_
  rintro e w2 ⟨g2, rfl, hO2, hge2, hb2⟩
  have hg2 : w1.heap.size < g2 := by simp at hge2; omega
  have HO2 := Lib.hid hO2
  have HP1 : Hid (Blk w2 w1.heap.size _ _) := Blk.later (heap_last rfl) hb2 (by simp)
  have HO1' := Lib.hid ((HO1.out.later (Below.new _ _)).later hb2)
  have HB2 := Lib.hid ((HB1.out.later (Below.new _ _)).later hb2)
  have z2 : g2 < w2.heap.size := by obtain ⟨o, _, cs, hk, _⟩ := hO2.2 (by omega); exact hk.lt
  have p1 := HP1.out.cell
  have zz1 := HP1.out.lt
  clear hO2 hb2 hge2 HO1
  go_wp2_with fail
  refine (eqScreen_any 0 0 0 0 (some ⟨g2, 0, none⟩) (some ⟨g1, 0, none⟩) 6 6 6 cap1 (List.replicate 6 blank20) (List.replicate 6 blank20) _ (HO2.out.later (Below.new _ _)).strs (HO1'.out.later (Below.new _ _)).strs (by omega) (by omega)).mono ?_
  rw [eqScr_same]
  rintro e w3 ⟨rfl, hb3⟩
  have HQ1 : Hid (Blk w3 w1.heap.size _ _) := (HP1.out.alloc _).later hb3 (by simp; omega)
  have HQ2 : Hid (Blk w3 w2.heap.size _ _) := Blk.later (heap_last rfl) hb3 (by simp)
  have HO1'' := Lib.hid ((HO1'.out.later (Below.new _ _)).later hb3)
  have HO2'' := Lib.hid ((HO2.out.later (Below.new _ _)).later hb3)
  have HB3 := Lib.hid ((HB2.out.later (Below.new _ _)).later hb3)
  have z3 : w2.heap.size < w3.heap.size := HQ2.out.lt
  clear hb3 p1 HP1 HO1' HO2
  have q2 := HQ2.out.cell
  go_wp2_with fail
  refine (markScreen_any 0 0 (some ⟨g2, 0, none⟩) 6 6 g2 1 (List.replicate 6 blank20) _ HO2''.out (by omega) (by omega)).mono ?_
  rintro e w4 ⟨rfl, hO4, hgr4⟩
  have HR1 : Hid (Blk w4 w1.heap.size _ _) := HQ1.out.grown hgr4 (by simp; omega)
  have HR2 : Hid (Blk w4 w2.heap.size _ _) := HQ2.out.grown hgr4 (by simp; omega)
  have HOm := Lib.hid hO4
  have HOw := Lib.hid (HO1''.out.grown hgr4 (by simp; omega))
  have HB4 := Lib.hid (HB3.out.grown hgr4 (HB3.out.size) (by intro k hk; injection hk with hk; omega))
  have r2 := HR2.out.cell
  have z4 : w3.heap.size ≤ w4.heap.size := hgr4.size
  clear hO4 hgr4 q2 HQ1 HQ2 HO1'' HO2''
  go_wp2_with fail
  refine (heldScreen_any 0 0 (some ⟨g2, 0, none⟩) 6 6 1 _ HOm.out.strs (by omega) (by omega)).mono ?_
  rintro e w5 ⟨rfl, hb5⟩
  have HS1 : Hid (Blk w5 w1.heap.size _ _) := HR1.out.later hb5 HR1.out.lt
  have HS2 : Hid (Blk w5 w2.heap.size _ _) := HR2.out.later hb5 HR2.out.lt
  have HOm5 := Lib.hid (HOm.out.later hb5)
  have HOw5 := Lib.hid (HOw.out.later hb5)
  have HB5 := Lib.hid (HB4.out.later hb5)
  clear hb5 r2 HR1 HR2 HOm HOw
  go_wp2_with fail
  refine (implNewScreen_any _).mono ?_
  rintro e w6 ⟨g6, rfl, hO6, hge6, hb6⟩
  have HT1 : Hid (Blk w6 w1.heap.size _ _) := HS1.out.later hb6 HS1.out.lt
  have HT2 : Hid (Blk w6 w2.heap.size _ _) := HS2.out.later hb6 HS2.out.lt
  have HOm6 := Lib.hid (HOm5.out.later hb6)
  have HOw6 := Lib.hid (HOw5.out.later hb6)
  have HO6 := Lib.hid hO6
  have HB6 := Lib.hid (HB5.out.later hb6)
  have t1 := HT1.out.cell
  have y1 := HT1.out.lt
  have y2 := HT2.out.lt
  clear hb6 hO6 HS1 HS2 HOm5 HOw5
  go_wp2_with fail
  refine (eqScreen_any 0 0 0 0 (some ⟨g6, 0, none⟩) (some ⟨g1, 0, none⟩) 6 6 6 cap1 (List.replicate 6 blank20) (List.replicate 6 blank20) _ (HO6.out.later (Below.new _ _)).strs (HOw6.out.later (Below.new _ _)).strs (by omega) (by omega)).mono ?_
  rw [eqScr_same]
  rintro e w7 ⟨rfl, hb7⟩
  have HU2 : Hid (Blk w7 w2.heap.size _ _) := (HT2.out.alloc _).later hb7 (by simp; omega)
  have HOm7 := Lib.hid ((HOm6.out.later (Below.new _ _)).later hb7)
  have HB7 := Lib.hid ((HB6.out.later (Below.new _ _)).later hb7)
  have u2 := HU2.out.cell
  clear hb7 t1 HT1 HT2 HOm6 HOw6 HO6
  go_wp2_with fail
  refine (heldScreen_any 0 0 (some ⟨g2, 0, none⟩) 6 6 1 _ HOm7.out.strs (by omega) (by omega)).mono ?_
  rintro e w8 ⟨rfl, hb8⟩
  have HB8 := Lib.hid (HB7.out.later hb8)
  clear hb8 u2
  go_wp2_with fail
  go_ret
  exact ⟨rfl, HB8.out⟩
end Go.Proofs.Ytjcpocedhaojpaa
