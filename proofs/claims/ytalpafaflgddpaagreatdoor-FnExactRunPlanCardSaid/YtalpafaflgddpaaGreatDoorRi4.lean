/-
  Rows of the program: what Before, CondTrue, the cell of a column and its closures compute. Rows of the program: what the closures that choose rows compute: a row stays just where the reference's does. Rows of the program: the order of rows, plainly: a strict weak one. Rows that are sorted in place: how they lie in memory, place by place. Rows in places and as lists; what is made of rows, plainly. Rows of the program: what rowOk computes: just what the reference's l29Row does. Rows of the program: slices.Clone, slices.IndexFunc and slices.DeleteFunc at rows. Rows of the program: sorting by insertion, swapping of stretches and rotation in place. (Printed by gen_so.py.) Rows of the program: the symmetric merge in place. (Printed by gen_so5.py.) Rows of the program: the symmetric merge in place, whole. (Printed by gen_so6.py.) Rows of the program: slices.SortStableFunc at 24 rows or fewer: a stable sorting. Rows of the program: what the closure that orders rows computes.
-/
import Derived.Test.YtalpafaflgddpaaGreatDoorRw6
import Derived.Test.YtalpafaflgddpaaGreatDoorPi1
import Derived.Test.YtalpafaflgddpaaGreatDoorOrdP
import Derived.Deep.RegionHeld3
import Derived.Test.YtalpafaflgddpaaGreatDoorPi2
import Derived.Deep.DeepCutAuto
namespace Go.Proofs.YtalpafaflgddpaaGreatDoor
open Go.RowKit

set_option maxHeartbeats 1000000 in
theorem Before_any (a b : ByteArray) (w : World) (htab : tabT w) (ha : a.size ≤ 1048576) (hb : b.size ≤ 1048576) :
    Calls Tryz.prog 137 #[.string a, .string b] w fun e w' => e = .returned (.bool (beforeB a b)) ∧ Below w.heap.size w w' := by
  have HK := Lib.hid (collate_any a b w htab ha hb)
  have hR := colI_lt a b
  generalize beforeB a b = R at *
  generalize colI a b = y at *
  have HR := Lib.hid hR
  clear hR
  go_enter Tryz.func137, Tryz.ntmps137
  go_wp2_with fail
  refine HK.out.mono ?_
  rintro e w1 ⟨rfl, hb1⟩
  have HB := Lib.hid hb1
  clear hb1
  go_wp2_with fail
  go_ret
  exact ⟨ret_bool HR.out, HB.out⟩
set_option maxHeartbeats 2000000 in
theorem CondTrue_any (cell : ByteArray) (c0 c1 c2 : Value) (d : CondD) (w : World) (htab : tabT w) (h : CondR w w.heap.size c0 c1 c2 d) (hs : d.small) (hc : cell.size ≤ 1048576) :
    Calls Tryz.prog 99 #[.string cell, .agg #[c0, c1, c2]] w fun e w' => e = .returned (.bool (condT cell d)) ∧ Below w.heap.size w w' := by
  obtain ⟨rfl, rfl, rfl⟩ := h
  have HR : Hid (condT cell d = (if d.op = 1 then decide (cell = d.val) else if d.op = 4 then decide (cell ≠ d.val) else if d.op = 2 then beforeB cell d.val else if d.op = 3 then beforeB d.val cell else false)) := rfl
  have HK1 := Lib.hid (fun o => Before_any cell d.val (w.alloc o) (tab_later htab (Below.new _ _)) hc hs.2)
  have HK2 := Lib.hid (fun o => Before_any d.val cell (w.alloc o) (tab_later htab (Below.new _ _)) hs.2 hc)
  have HB0 := Lib.hid (fun o => Below.new w o)
  clear hs hc htab
  generalize condT cell d = R at *
  generalize d.op = op at *
  generalize d.col = cl at *
  generalize d.val = vl at *
  go_enter Tryz.func99, Tryz.ntmps99
  by_cases h1 : op = 1
  · have HE : Hid (R = decide (cell = vl)) := by unfold Hid; rw [HR.out, if_pos h1]
    subst h1
    clear HR
    by_cases he : cell = vl
    · have HE2 : Hid (R = true) := by unfold Hid; rw [HE.out, decide_eq_true he]
      subst he
      go_wp2_with fail
      go_ret
      exact ⟨ret_bool HE2.out.symm, HB0.out _⟩
    · have HE2 : Hid (R = false) := by unfold Hid; rw [HE.out, decide_eq_false he]
      have hbe := str_beq he
      clear he
      go_wp2_with fail
      go_ret
      exact ⟨ret_bool HE2.out.symm, HB0.out _⟩
  by_cases h4 : op = 4
  · have HE : Hid (R = decide (cell ≠ vl)) := by unfold Hid; rw [HR.out, if_neg h1, if_pos h4]
    subst h4
    clear HR h1
    by_cases he : cell = vl
    · have HE2 : Hid (R = false) := by unfold Hid; rw [HE.out, decide_eq_false (fun h => h he)]
      subst he
      go_wp2_with fail
      go_ret
      exact ⟨ret_bool HE2.out.symm, HB0.out _⟩
    · have HE2 : Hid (R = true) := by unfold Hid; rw [HE.out, decide_eq_true he]
      have hbe := str_beq he
      have hbn := str_bne he
      clear he
      go_wp2_with fail
      go_ret
      exact ⟨ret_bool HE2.out.symm, HB0.out _⟩
  by_cases h2 : op = 2
  · have HE : Hid (R = beforeB cell vl) := by unfold Hid; rw [HR.out, if_neg h1, if_neg h4, if_pos h2]
    subst h2
    clear HR h1 h4
    generalize beforeB cell vl = x at *
    go_wp2_with fail
    refine (HK1.out _).mono ?_
    rintro e w1 ⟨rfl, hb1⟩
    have HB := Lib.hid ((HB0.out _).later hb1)
    clear hb1
    go_wp2_with fail
    go_ret
    exact ⟨ret_bool HE.out.symm, HB.out⟩
  by_cases h3 : op = 3
  · have HE : Hid (R = beforeB vl cell) := by unfold Hid; rw [HR.out, if_neg h1, if_neg h4, if_neg h2, if_pos h3]
    subst h3
    clear HR h1 h4 h2
    generalize beforeB vl cell = x at *
    go_wp2_with fail
    refine (HK2.out _).mono ?_
    rintro e w1 ⟨rfl, hb1⟩
    have HB := Lib.hid ((HB0.out _).later hb1)
    clear hb1
    go_wp2_with fail
    go_ret
    exact ⟨ret_bool HE.out.symm, HB.out⟩
  · have HE : Hid (R = false) := by unfold Hid; rw [HR.out, if_neg h1, if_neg h4, if_neg h2, if_neg h3]
    have i1 := int_beq h1
    have i2 := int_beq h2
    have i3 := int_beq h3
    have i4 := int_beq h4
    clear HR h1 h2 h3 h4
    go_wp2_with fail
    go_ret
    exact ⟨ret_bool HE.out.symm, HB0.out _⟩
set_option maxRecDepth 100000 in
set_option maxHeartbeats 2000000 in
theorem cell_any (b0 b1 b2 b3 r0 : Value) (b : TableD) (row : List ByteArray) (col : ByteArray) (j : Nat) (w : World) (hb : TableR w w.heap.size b0 b1 b2 b3 b) (hr : RowR w w.heap.size r0 row) (hbs : b.small) (hp : placeI b.cols col = j) (hj : j < row.length) :
    Calls Tryz.prog 100 #[.agg #[b0, b1, b2, b3], .agg #[r0], .string col] w fun e w' => e = .returned (.string (row.getD j ByteArray.empty)) ∧ Below w.heap.size w w' := by
  obtain ⟨rfl, rfl, ⟨A2, n2, p2, rfl, s2, k2⟩, ⟨A3, n3, p3, rfl, s3, k3⟩⟩ := hb
  obtain ⟨R0, rn, rc, rfl, hS, hrc⟩ := hr
  have hn2 : n2 ≤ 1048576 := by rw [← s2.1]; exact hbs.2.2.1.1
  have hjn : j < rn := by rw [← hS.1]; exact hj
  have HKP := Lib.hid (fun W (hW : Below w.heap.size w W) => (IndexS_any A2 n2 p2 b.cols col W (s2.later hW) hn2).mono (R' := fun e w' => e = .returned (.int .i64 (j : Nat)) ∧ Below W.heap.size W w') (fun e w' ⟨h1, h2⟩ => ⟨by rw [h1, hp], h2 ▸ Below.refl _ _⟩))
  obtain ⟨rb, ro, rfl, hrb, hcell⟩ := hS.2 (by omega)
  have hck := hcell j hjn
  have hjz : (j : Int) < (rn : Int) := by omega
  have HB0 := Lib.hid ((Below.new w (.cells #[.string b.name, .string b.glob, .slice A2 n2 p2, .slice A3 n3 p3] 43)).later (Below.new _ (.cells #[.slice (some ⟨rb, ro, none⟩) rn rc] 90)))
  obtain ⟨WB, hWB⟩ : ∃ WB, WB = (w.alloc (.cells #[.string b.name, .string b.glob, .slice A2 n2 p2, .slice A3 n3 p3] 43)).alloc (.cells #[.slice (some ⟨rb, ro, none⟩) rn rc] 90) := ⟨_, rfl⟩
  have HX0 : Hid (Blk WB w.heap.size 43 #[.string b.name, .string b.glob, .slice A2 n2 p2, .slice A3 n3 p3]) := by subst hWB; exact heap_two0 _ _ _
  have HX1 : Hid (Blk WB (w.heap.size + 1) 90 #[.slice (some ⟨rb, ro, none⟩) rn rc]) := by subst hWB; exact heap_two1 _ _ _
  have HBB : Hid (Below w.heap.size w WB) := by subst hWB; exact HB0.out
  have HRd : Hid (∀ W', Below WB.heap.size WB W' → (W'.cell? ⟨w.heap.size, 2, none⟩ = some (.slice A2 n2 p2) ∧ W'.cell? ⟨w.heap.size + 1, 0, none⟩ = some (.slice (some ⟨rb, ro, none⟩) rn rc) ∧ W'.cell? ⟨rb, ro + j, none⟩ = some (.string (row.getD j ByteArray.empty)))) := fun W' hW => ⟨((HX0.out.later hW HX0.out.lt).cell 2).trans rfl, ((HX1.out.later hW HX1.out.lt).cell 0).trans rfl, ((HBB.out.later hW).cell (p := ⟨rb, ro + j, none⟩) hrb).trans hck⟩
  clear s2 s3 hS hbs hcell hck
  generalize row.getD j ByteArray.empty = s at *
  go_enter Tryz.func100, Tryz.ntmps100
  go_wp2_with fail
  rw [← hWB]
  clear hWB HB0
  obtain ⟨x0, x1, x2⟩ := HRd.out _ (Below.refl _ _)
  go_region_held3 (fun W' => W'.cell? ⟨w.heap.size, 2, none⟩ = some (.slice A2 n2 p2) ∧ W'.cell? ⟨w.heap.size + 1, 0, none⟩ = some (.slice (some ⟨rb, ro, none⟩) rn rc) ∧ W'.cell? ⟨rb, ro + j, none⟩ = some (.string s))
    (first | exact HRd.out _ hb1 | exact HRd.out _ (Below.refl WB.heap.size WB).drew)
    (first | (go_at_call 114; refine (HKP.out _ (by exact HBB.out.drew)).mono ?_; rintro e w1 ⟨rfl, hb1'⟩; have hb1 := undrew hb1'; clear hb1'))
  have HB1 := Lib.hid (HBB.out.later hb1)
  clear hb1
  go_wp2_with fail
  go_ret
  exact ⟨rfl, HB1.out⟩
set_option maxHeartbeats 1000000 in
theorem selected_any (b0 b1 b2 b3 c0 c1 c2 c3 c4 c5 : Value) (b : TableD) (d : QueryD) (w : World) (hb : TableR w w.heap.size b0 b1 b2 b3 b) (h : QueryR w w.heap.size c0 c1 c2 c3 c4 c5 d) :
    Calls Tryz.prog 104 #[.agg #[b0, b1, b2, b3], .agg #[c0, c1, c2, c3, c4, c5]] w fun e w' => e = .returned (if d.cols.length = 0 then b2 else c1) ∧ Below w.heap.size w w' := by
  obtain ⟨rfl, rfl, ⟨A2, n2, p2, rfl, s2, k2⟩, ⟨A3, n3, p3, rfl, s3, k3⟩⟩ := hb
  obtain ⟨rfl, ⟨B1, m1, q1, rfl, t1, l1⟩, ⟨B2, m2, q2, rfl, t2, l2⟩, rfl, rfl, rfl⟩ := h
  have HB0 := Lib.hid (fun o o' => (Below.new w o).later (Below.new _ o'))
  rw [t1.1]
  clear s2 s3 t1 t2
  go_enter Tryz.func104, Tryz.ntmps104
  by_cases h0 : m1 = 0
  · subst h0
    go_wp2_with fail
    go_ret
    exact ⟨rfl, HB0.out _ _⟩
  · have i1 : ((m1 : Int) == 0) = false := by rw [beq_eq_false_iff_ne]; omega
    have i2 : (m1 == 0) = false := by rw [beq_eq_false_iff_ne]; omega
    rw [if_neg h0]
    clear h0
    go_wp2_with fail
    go_ret
    exact ⟨rfl, HB0.out _ _⟩
end Go.Proofs.YtalpafaflgddpaaGreatDoor

namespace Go.Proofs.YtalpafaflgddpaaGreatDoor
open Go.RowKit

set_option maxRecDepth 100000 in
set_option maxHeartbeats 4000000 in
theorem result11_any (bk rk : Nat) (b0 b1 b2 b3 r0 c0 c1 c2 : Value) (b : TableD) (row : List ByteArray) (d : CondD) (j : Nat) (w : World) (htab : tabT w) (hkb : Blk w bk 43 #[b0, b1, b2, b3]) (hkr : Blk w rk 90 #[r0]) (hb : TableR w w.heap.size b0 b1 b2 b3 b) (hr : RowR w w.heap.size r0 row) (h : CondR w w.heap.size c0 c1 c2 d)
    (hbs : b.small) (hrs : smallR row) (hs : d.small) (hp : placeI b.cols d.col = j) (hj : j < row.length) :
    Calls Tryz.prog 98 #[.agg #[c0, c1, c2], .pointer (some ⟨bk, 0, none⟩), .pointer (some ⟨rk, 0, none⟩)] w fun e w' => e = .returned (.bool (!condT (row.getD j ByteArray.empty) d)) ∧ Below w.heap.size w w' := by
  have HKc := Lib.hid (fun W (hW : Below w.heap.size w W) => cell_any b0 b1 b2 b3 r0 b row d.col j W (hb.later hW) (hr.later hW) hbs hp hj)
  have HKt := Lib.hid (fun W (hW : Below w.heap.size w W) => CondTrue_any (row.getD j ByteArray.empty) c0 c1 c2 d W (tab_later htab hW) (h.later hW) hs (hrs.2 _ (getD_memS row j hj)))
  obtain ⟨rfl, rfl, ⟨A2, n2, p2, rfl, s2, k2⟩, ⟨A3, n3, p3, rfl, s3, k3⟩⟩ := hb
  obtain ⟨R0, rn, rc, rfl, hS, hrc⟩ := hr
  obtain ⟨rfl, rfl, rfl⟩ := h
  have HB0 := Lib.hid (Below.new w (.cells #[.string d.col, .int .i64 d.op, .string d.val] 101))
  have HX0 := Lib.hid (heap_last (W := w) (o := .cells #[.string d.col, .int .i64 d.op, .string d.val] 101) rfl)
  have HKB := Lib.hid hkb
  have HKR := Lib.hid hkr
  obtain ⟨WB, hWB⟩ : ∃ WB, WB = w.alloc (.cells #[.string d.col, .int .i64 d.op, .string d.val] 101) := ⟨_, rfl⟩
  have hbk := hkb.lt
  have hrk := hkr.lt
  have HRd : Hid (∀ W', Below WB.heap.size WB W' → (W'.cell? ⟨bk, 0, none⟩ = some (.string b.name) ∧ W'.cell? ⟨bk, 1, none⟩ = some (.string b.glob) ∧ W'.cell? ⟨bk, 2, none⟩ = some (.slice A2 n2 p2) ∧ W'.cell? ⟨bk, 3, none⟩ = some (.slice A3 n3 p3) ∧ W'.cell? ⟨rk, 0, none⟩ = some (.slice R0 rn rc) ∧ W'.cell? ⟨w.heap.size, 0, none⟩ = some (.string d.col) ∧ W'.cell? ⟨w.heap.size, 1, none⟩ = some (.int .i64 d.op) ∧ W'.cell? ⟨w.heap.size, 2, none⟩ = some (.string d.val))) := fun W' hW => by
    subst hWB
    have e1 := HKB.out.later (HB0.out.later hW) hbk
    have e2 := HKR.out.later (HB0.out.later hW) hrk
    have e3 := Blk.later HX0.out hW (by simp)
    exact ⟨(e1.cell 0).trans rfl, (e1.cell 1).trans rfl, (e1.cell 2).trans rfl, (e1.cell 3).trans rfl, (e2.cell 0).trans rfl, (e3.cell 0).trans rfl, (e3.cell 1).trans rfl, (e3.cell 2).trans rfl⟩
  have HBB : Hid (Below w.heap.size w WB) := by subst hWB; exact HB0.out
  clear s2 s3 hS hkb hkr hbs hrs hs htab hp hj
  generalize condT (row.getD j ByteArray.empty) d = y at *
  generalize row.getD j ByteArray.empty = cell at *
  go_enter Tryz.func98, Tryz.ntmps98
  go_wp2_with fail
  rw [← hWB]
  clear hWB HB0 HX0
  obtain ⟨x0, x1, x2, x3, x4, x5, x6, x7⟩ := HRd.out _ (Below.refl _ _)
  go_region_held3 (fun W' => W'.cell? ⟨bk, 0, none⟩ = some (.string b.name) ∧ W'.cell? ⟨bk, 1, none⟩ = some (.string b.glob) ∧ W'.cell? ⟨bk, 2, none⟩ = some (.slice A2 n2 p2) ∧ W'.cell? ⟨bk, 3, none⟩ = some (.slice A3 n3 p3) ∧ W'.cell? ⟨rk, 0, none⟩ = some (.slice R0 rn rc) ∧ W'.cell? ⟨w.heap.size, 0, none⟩ = some (.string d.col) ∧ W'.cell? ⟨w.heap.size, 1, none⟩ = some (.int .i64 d.op) ∧ W'.cell? ⟨w.heap.size, 2, none⟩ = some (.string d.val))
    (first | exact HRd.out _ hb2 | exact HRd.out _ hb1 | exact HRd.out _ (Below.refl WB.heap.size WB).drew)
    (first
      | (go_at_call 100; refine (HKc.out _ (by exact HBB.out.drew)).mono ?_; rintro e w1 ⟨rfl, hb1'⟩; have hb1 := undrew hb1'; clear hb1')
      | (go_at_call 99; refine (HKt.out _ (by exact HBB.out.later hb1)).mono ?_; rintro e w2 ⟨rfl, hb2'⟩; have hb2 := hb1.later hb2'; clear hb2'))
  have HB2 := Lib.hid (HBB.out.later hb2)
  clear hb1 hb2
  go_wp2_with fail
  go_ret
  exact ⟨rfl, HB2.out⟩
theorem stays_any (cols : List ByteArray) (wh : List CondD) (row : List ByteArray) : (wh.any fun c => !condT (row.getD (placeI cols c.col).toNat ByteArray.empty) c) = !staysB cols wh row := by
  unfold staysB
  induction wh with
  | nil => rfl
  | cons c r ih => rw [List.any_cons, List.all_cons, ih]; cases condT (row.getD (placeI cols c.col).toNat ByteArray.empty) c <;> rfl
set_option maxRecDepth 100000 in
set_option maxHeartbeats 4000000 in
theorem result1_any (bk qk : Nat) (b0 b1 b2 b3 c0 c1 c2 c3 c4 c5 r0 : Value) (b : TableD) (d : QueryD) (row : List ByteArray) (w : World) (htab : tabT w) (hkb : Blk w bk 43 #[b0, b1, b2, b3]) (hkq : Blk w qk 47 #[c0, c1, c2, c3, c4, c5]) (hb : TableR w w.heap.size b0 b1 b2 b3 b) (h : QueryR w w.heap.size c0 c1 c2 c3 c4 c5 d) (hr : RowR w w.heap.size r0 row)
    (hbs : b.small) (hs : d.small) (hrs : smallR row) (hfit : ∀ c ∈ d.wher, 0 ≤ placeI b.cols c.col) (hlen : row.length = b.cols.length) :
    Calls Tryz.prog 96 #[.agg #[r0], .pointer (some ⟨qk, 0, none⟩), .pointer (some ⟨bk, 0, none⟩)] w fun e w' => e = .returned (.bool (!staysB b.cols d.wher row)) ∧ Below w.heap.size w w' := by
  have HR := Lib.hid (stays_any b.cols d.wher row)
  obtain ⟨rfl, ⟨B1, m1, q1, rfl, t1, l1⟩, ⟨B2, m2, q2, rfl, t2, l2⟩, rfl, rfl, rfl⟩ := h
  have hm2 : m2 ≤ 1048576 := by rw [← t2.1]; exact hs.2.2.1.1
  obtain ⟨R0, rn, rc, rfl, hS, hrc⟩ := hr
  have HKB := Lib.hid hkb
  have HTB := Lib.hid hb
  have HP : Hid (PredCond 98 #[.pointer (some ⟨bk, 0, none⟩), .pointer (some ⟨w.heap.size, 0, none⟩)] (fun c => !condT (row.getD (placeI b.cols c.col).toNat ByteArray.empty) c) d.wher (w.alloc (.cells #[.slice R0 rn rc] 90))) := fun c hc c0 c1 c2 W hW hcr => by
    have h1 := hfit c hc
    have h2 := (placeI_bd b.cols c.col).2
    have hBw : Below w.heap.size w W := (Below.new w _).later hW
    exact result11_any bk w.heap.size b0 b1 b2 b3 (.slice R0 rn rc) c0 c1 c2 b row c (placeI b.cols c.col).toNat W (tab_later htab hBw) (HKB.out.later hBw HKB.out.lt) (Blk.later (heap_last rfl) hW (by simp)) (HTB.out.later hBw) (RowR.later ⟨R0, rn, rc, rfl, hS, hrc⟩ hBw) hcr hbs hrs (hs.2.2.1.2 c hc) (by omega) (by rw [hlen]; omega)
  have HK := Lib.hid (ContainsFuncCond_any 98 #[.pointer (some ⟨bk, 0, none⟩), .pointer (some ⟨w.heap.size, 0, none⟩)] (fun c => !condT (row.getD (placeI b.cols c.col).toNat ByteArray.empty) c) B2 m2 q2 d.wher (w.alloc (.cells #[.slice R0 rn rc] 90)) (t2.later (Below.new _ _)) hm2 (enters_of Tryz.func98 (by kernel_rfl) rfl) HP.out)
  rw [HR.out] at HK
  have x2 := hkq.cell 2
  simp at x2
  have hq := hkq.lt
  clear hkb hkq hb t1 t2 hS hbs hs hrs hfit htab HP
  generalize staysB b.cols d.wher row = y at *
  go_enter Tryz.func96, Tryz.ntmps96
  go_wp2_with fail
  refine HK.out.mono ?_
  rintro e w1 ⟨rfl, hb1⟩
  have HB := Lib.hid ((Below.new w _).later hb1)
  clear hb1
  go_wp2_with fail
  go_ret
  exact ⟨rfl, HB.out⟩
end Go.Proofs.YtalpafaflgddpaaGreatDoor

namespace Go.Proofs.YtalpafaflgddpaaGreatDoor
open Go.RowKit

theorem colI_bd (a b : ByteArray) : -1 ≤ colI a b ∧ colI a b ≤ 1 := by
  unfold colI
  split
  · unfold cmpI
    split
    · omega
    · split <;> omega
  · split
    · omega
    · split
      · omega
      · unfold cmpS
        split
        · omega
        · split <;> omega
theorem colI_gt (a b : ByteArray) : decide (0 < colI a b) = beforeB b a := by
  cases h : beforeB b a
  · rw [decide_eq_false_iff_not]
    intro h1
    have hne : a ≠ b := fun e => by rw [(colI_zero a b).2 e] at h1; omega
    rcases before_total a b hne with h2 | h2
    · rw [← colI_lt, decide_eq_true_iff] at h2; omega
    · rw [h] at h2; cases h2
  · rw [decide_eq_true_iff]
    rcases Int.lt_trichotomy (colI a b) 0 with h1 | h1 | h1
    · have h2 : beforeB a b = true := by rw [← colI_lt]; simpa using h1
      have := before_trans _ _ _ h h2
      rw [before_irr] at this
      cases this
    · rw [(colI_zero a b).1 h1, before_irr] at h
      cases h
    · exact h1
/-- The order as a number. -/
def cmpK (desc : Bool) (kk : Nat) (x y : List ByteArray) : Int := if desc = true then -(colI (x.getD kk ByteArray.empty) (y.getD kk ByteArray.empty)) else colI (x.getD kk ByteArray.empty) (y.getD kk ByteArray.empty)
theorem cmpK_lt (desc : Bool) (kk : Nat) (x y : List ByteArray) : decide (cmpK desc kk x y < 0) = ltK desc kk x y := by
  unfold cmpK ltK
  cases desc
  · rw [if_neg (by simp), if_neg (by simp), colI_lt]
  · rw [if_pos rfl, if_pos rfl, ← colI_gt, Bool.eq_iff_iff]
    simp
theorem before_neg (a b c : ByteArray) (h1 : beforeB a b = false) (h2 : beforeB b c = false) : beforeB a c = false := by
  cases h : beforeB a c
  · rfl
  · by_cases e : b = c
    · subst e
      rw [h1] at h; cases h
    · rcases before_total b c e with h3 | h3
      · rw [h2] at h3; cases h3
      · have := before_trans _ _ _ h h3
        rw [h1] at this; cases this
theorem ltK_weak (desc : Bool) (kk : Nat) : Stab.Weak (ltK desc kk) := by
  cases desc
  · exact ⟨fun a => by simp [ltK, before_irr], fun a b c h1 h2 => by simp [ltK] at h1 h2 ⊢; exact before_trans _ _ _ h1 h2, fun a b c h1 h2 => by simp [ltK] at h1 h2 ⊢; exact before_neg _ _ _ h1 h2⟩
  · exact ⟨fun a => by simp [ltK, before_irr], fun a b c h1 h2 => by simp [ltK] at h1 h2 ⊢; exact before_trans _ _ _ h2 h1, fun a b c h1 h2 => by simp [ltK] at h1 h2 ⊢; exact before_neg _ _ _ h2 h1⟩
end Go.Proofs.YtalpafaflgddpaaGreatDoor

namespace Go.Proofs.YtalpafaflgddpaaGreatDoor
open Go.RowKit
set_option linter.unusedVariables false

/-- A row with the value that stands for it in its cell. -/
abbrev Item := Value × List ByteArray
def ltI (lt : List ByteArray → List ByteArray → Bool) (x y : Item) : Bool := lt x.2 y.2
theorem ltI_weak {lt : List ByteArray → List ByteArray → Bool} (h : Stab.Weak lt) : Stab.Weak (ltI lt) := ⟨fun a => h.irr _, fun a b c => h.trans _ _ _, fun a b c => h.neg _ _ _⟩
/-- The block g of the call's own holds d's values in the places 0 to n. -/
def SrtR (w : World) (base g n cap : Nat) (d : Nat → Item) : Prop := w.ownsRow base 90 1 (.slice (some ⟨g, 0, none⟩) n cap) n ((Stab.seg d 0 n).map Prod.fst)
theorem SrtR.later {w w' : World} {base g n cap : Nat} {d : Nat → Item} (h : SrtR w base g n cap d) (hb : Below w.heap.size w w') : SrtR w' base g n cap d := Own.own_later h hb
theorem SrtR.at {w : World} {base g n cap : Nat} {d : Nat → Item} (h : SrtR w base g n cap d) {j : Nat} (hj : j < n) : w.cell? ⟨g, j, none⟩ = some (d j).1 := by
  refine Own.own_cell h j _ (by omega) ?_
  rw [List.getElem?_map, Stab.seg_at, if_pos (by omega), Nat.zero_add]
  rfl
theorem SrtR.blk {w : World} {base g n cap : Nat} {d : Nat → Item} (h : SrtR w base g n cap d) : ∃ cur, Blk w g 90 cur := Own.own_blk h
theorem SrtR.frozen {w : World} {base g n cap : Nat} {d : Nat → Item} (h : SrtR w base g n cap d) (j : Nat) : w.frozen? ⟨g, j, none⟩ = false := by
  obtain ⟨cur, hc⟩ := h.blk
  exact hc.frozen j
theorem SrtR.lt {w : World} {base g n cap : Nat} {d : Nat → Item} (h : SrtR w base g n cap d) : base ≤ g ∧ g < w.heap.size := World.ownsRow.lt h g rfl
theorem SrtR.cap {w : World} {base g n cap : Nat} {d : Nat → Item} (h : SrtR w base g n cap d) : n ≤ cap ∧ cap ≤ maxLen := by
  obtain ⟨_, _, e, h1, h2, _⟩ := Own.own_slice h
  injection e with _ _ e
  subst e
  exact ⟨h1, h2⟩
theorem SrtR.set {w : World} {base g n cap : Nat} {d : Nat → Item} (h : SrtR w base g n cap d) {i : Nat} (hi : i < n) (x : Item) : SrtR (w.setCell ⟨g, i, none⟩ x.1) base g n cap (fun t => if t = i then x else d t) ∧ w.grownBy (w.setCell ⟨g, i, none⟩ x.1) (some g) := by
  obtain ⟨h1, h2⟩ := World.ownsRow.stored h i x.1
  refine ⟨?_, h2⟩
  unfold SrtR
  have e := Stab.seg_set d (a := 0) (b := n) (i := i) x (by omega)
  rw [Nat.zero_add] at e
  rw [← e, List.map_set]
  exact h1
theorem SrtR.swap {w : World} {base g n cap : Nat} {d : Nat → Item} (h : SrtR w base g n cap d) {i j : Nat} (hi : i < n) (hj : j < n) :
    SrtR ((w.setCell ⟨g, i, none⟩ (d j).1).setCell ⟨g, j, none⟩ (d i).1) base g n cap (Stab.swp d i j) ∧ (∀ w0, Below base w0 w → Below base w0 ((w.setCell ⟨g, i, none⟩ (d j).1).setCell ⟨g, j, none⟩ (d i).1)) := by
  have h1 := h.set hi (d j)
  have h2 := h1.1.set hj (d i)
  refine ⟨?_, fun w0 hb => (hb.setCell (p := ⟨g, i, none⟩) h.lt.1 _).setCell (p := ⟨g, j, none⟩) h.lt.1 _⟩
  have e : (fun t => if t = j then d i else (fun t => if t = i then d j else d t) t) = Stab.swp d i j := by
    funext t
    unfold Stab.swp
    by_cases e1 : t = j
    · subst e1
      by_cases e2 : t = i
      · subst e2; simp
      · simp [e2]
    · simp [e1]
  rw [← e]
  exact h2.1
/-- Each place holds a row that reads as in the world w0, and of which P holds. -/
def GoodR (w0 : World) (P : List ByteArray → Prop) (n : Nat) (d : Nat → Item) : Prop := ∀ t, t < n → P (d t).2 ∧ RowR w0 w0.heap.size (d t).1 (d t).2
theorem GoodR.swp {w0 : World} {P : List ByteArray → Prop} {n : Nat} {d : Nat → Item} (h : GoodR w0 P n d) {i j : Nat} (hi : i < n) (hj : j < n) : GoodR w0 P n (Stab.swp d i j) := by
  intro t ht
  unfold Stab.swp
  split
  · exact h j hj
  · split
    · exact h i hi
    · exact h t ht
/-- What the function that compares computes. -/
def CmpOk (f : Nat) (caps : Array Value) (cmp : List ByteArray → List ByteArray → Int) (P : List ByteArray → Prop) (w0 : World) : Prop :=
  ∀ x y x0 y0 W, Below w0.heap.size w0 W → P x → P y → RowR W W.heap.size x0 x → RowR W W.heap.size y0 y → Calls Tryz.prog f (#[.agg #[x0], .agg #[y0]] ++ caps) W fun e w' => e = .returned (.int .i64 (cmp x y)) ∧ Below W.heap.size W w'
theorem CmpOk.at {f : Nat} {caps : Array Value} {cmp : List ByteArray → List ByteArray → Int} {P : List ByteArray → Prop} {w0 W : World} {n : Nat} {d : Nat → Item} (h : CmpOk f caps cmp P w0) (hg : GoodR w0 P n d) (hb : Below w0.heap.size w0 W) {i j : Nat} (hi : i < n) (hj : j < n) :
    Calls Tryz.prog f (#[.agg #[(d i).1], .agg #[(d j).1]] ++ caps) W fun e w' => e = .returned (.int .i64 (cmp (d i).2 (d j).2)) ∧ Below W.heap.size W w' :=
  h _ _ _ _ W hb (hg i hi).1 (hg j hj).1 ((hg i hi).2.later hb) ((hg j hj).2.later hb)
theorem GoodR.val {w0 : World} {P : List ByteArray → Prop} {n : Nat} {d : Nat → Item} (h : GoodR w0 P n d) {t : Nat} (ht : t < n) : ∃ A m c, (d t).1 = .slice A m c := by
  obtain ⟨A, m, c, e, _, _⟩ := (h t ht).2
  exact ⟨A, m, c, e⟩
/-- Sorted from a up to b, as a row of the call's own. -/
structure SrtSt (w0 : World) (P : List ByteArray → Prop) (g n cap : Nat) (w : World) (d : Nat → Item) : Prop where
  row : SrtR w w0.heap.size g n cap d
  good : GoodR w0 P n d
  below : Below w0.heap.size w0 w
theorem SrtSt.later {w0 w w' : World} {P : List ByteArray → Prop} {g n cap : Nat} {d : Nat → Item} (h : SrtSt w0 P g n cap w d) (hb : Below w.heap.size w w') : SrtSt w0 P g n cap w' d := ⟨h.row.later hb, h.good, h.below.later hb⟩
theorem SrtSt.swap {w0 w : World} {P : List ByteArray → Prop} {g n cap : Nat} {d : Nat → Item} (h : SrtSt w0 P g n cap w d) {i j : Nat} (hi : i < n) (hj : j < n) : SrtSt w0 P g n cap ((w.setCell ⟨g, i, none⟩ (d j).1).setCell ⟨g, j, none⟩ (d i).1) (Stab.swp d i j) :=
  ⟨(h.row.swap hi hj).1, h.good.swp hi hj, (h.row.swap hi hj).2 w0 h.below⟩
end Go.Proofs.YtalpafaflgddpaaGreatDoor

namespace Go.Proofs.YtalpafaflgddpaaGreatDoor
open Go.RowKit
set_option linter.unusedVariables false

theorem rows_of_row {w W : World} {base n : Nat} {v : Value} {rs : List (List ByteArray)} {cs : List Value} (h : W.ownsRow base 90 1 v n cs) (hn : rs.length = n) (hc : CellsG 1 (rowC w w.heap.size) rs cs) (hb : Below w.heap.size w W) : ∃ A cap, v = .slice A n cap ∧ n ≤ cap ∧ RowsRd W W.heap.size A n rs := by
  obtain ⟨A, cap, rfl, hcap, _, hA⟩ := Own.own_slice h
  refine ⟨A, cap, rfl, hcap, hn, fun hp => ?_⟩
  obtain ⟨g, rfl, hg, _⟩ := hA hp
  refine ⟨g, 0, rfl, hg, fun j hj => ?_⟩
  obtain ⟨c, hl, ⟨v, rfl, hr⟩, hx⟩ := CellsG.at j hc (by omega)
  refine ⟨v, ?_, hr.later hb⟩
  rw [Nat.zero_add]
  exact Own.own_cell h j v (by omega) (by simpa using hx 0 (by omega))
theorem rowC_one {w : World} {B : Nat} (c : List Value) (d : List ByteArray) (h : rowC w B c d) : ∀ u ∈ c, u.oneCell' = true := by
  obtain ⟨_, rfl, A, n, cap, rfl, _⟩ := h
  intro u hu
  rw [List.mem_singleton.1 hu]
  rfl
theorem rows_reads {w : World} {B : Nat} {A : Option Addr} {n : Nat} {rs : List (List ByteArray)} (h : RowsRd w B A n rs) : ∃ cs, CellsG 1 (rowC w B) rs cs ∧ Reads w B 1 A n cs := by
  obtain ⟨hl, h2⟩ := h
  rcases Nat.eq_zero_or_pos n with h0 | h0
  · subst h0
    have : rs = [] := List.eq_nil_of_length_eq_zero hl
    subst this
    exact ⟨[], rfl, rfl, fun h => absurd h (by omega)⟩
  · obtain ⟨b, o, rfl, hb, hc⟩ := h2 h0
    obtain ⟨cs, h3, h4⟩ := cells_gather (R := rowC w B) (sz := 1) (w := w) b rs o (fun j hj => by
      obtain ⟨v, e0, hr⟩ := hc j (by omega)
      refine ⟨[v], rfl, ⟨v, rfl, hr⟩, fun t ht => ?_⟩
      match t, ht with
      | 0, _ => rw [Nat.mul_one]; exact e0)
    exact ⟨cs, h3, by rw [h3.len, hl], fun _ => ⟨_, rfl, hb, fun j u hu => by rw [add_offN]; exact h4 j u hu⟩⟩
theorem CellsG.mapI {w : World} {B : Nat} : ∀ (l : List Item), (∀ x ∈ l, RowR w B x.1 x.2) → CellsG 1 (rowC w B) (l.map Prod.snd) (l.map Prod.fst)
  | [], _ => rfl
  | x :: r, h => ⟨[x.1], r.map Prod.fst, rfl, rfl, ⟨x.1, rfl, h x (by simp)⟩, CellsG.mapI r (fun y hy => h y (List.mem_cons_of_mem _ hy))⟩
/-- The places of a list of rows and its cells. -/
def itemsOf (rs : List (List ByteArray)) (cs : List Value) : Nat → Item := fun t => (cs.getD t (.slice none 0 0), rs.getD t [])
theorem items_fst (rs : List (List ByteArray)) (cs : List Value) {n : Nat} (h : cs.length = n) : (Stab.seg (itemsOf rs cs) 0 n).map Prod.fst = cs := by
  apply List.ext_getElem?
  intro i
  rw [List.getElem?_map, Stab.seg_at]
  by_cases hi : i < n
  · rw [if_pos (by omega), Nat.zero_add, List.getElem?_eq_getElem (by omega)]
    simp [itemsOf, List.getD_eq_getElem?_getD, List.getElem?_eq_getElem (show i < cs.length by omega)]
  · rw [if_neg (by omega), List.getElem?_eq_none (by omega)]
    rfl
theorem items_snd (rs : List (List ByteArray)) (cs : List Value) {n : Nat} (h : rs.length = n) : (Stab.seg (itemsOf rs cs) 0 n).map Prod.snd = rs := by
  apply List.ext_getElem?
  intro i
  rw [List.getElem?_map, Stab.seg_at]
  by_cases hi : i < n
  · rw [if_pos (by omega), Nat.zero_add, List.getElem?_eq_getElem (show i < rs.length by omega)]
    simp [itemsOf, List.getD_eq_getElem?_getD, List.getElem?_eq_getElem (show i < rs.length by omega)]
  · rw [if_neg (by omega), List.getElem?_eq_none (by omega)]
    rfl
theorem items_good {w0 : World} {P : List ByteArray → Prop} {rs : List (List ByteArray)} {cs : List Value} (hc : CellsG 1 (rowC w0 w0.heap.size) rs cs) (hP : ∀ r ∈ rs, P r) : GoodR w0 P rs.length (itemsOf rs cs) := by
  intro t ht
  obtain ⟨c, hl, ⟨v, rfl, hr⟩, hx⟩ := CellsG.at t hc ht
  have e : cs[t]? = some v := by simpa using hx 0 (by omega)
  have e1 : (itemsOf rs cs t).1 = v := by simp [itemsOf, List.getD_eq_getElem?_getD, e]
  have e2 : (itemsOf rs cs t).2 = rs.getD t default := rfl
  rw [e1, e2]
  exact ⟨hP _ (getD_memD rs t ht), hr⟩
theorem items_start {w0 w : World} {P : List ByteArray → Prop} {rs : List (List ByteArray)} {cs : List Value} {g cap : Nat} (h : w.ownsRow w0.heap.size 90 1 (.slice (some ⟨g, 0, none⟩) rs.length cap) rs.length cs) (hc : CellsG 1 (rowC w0 w0.heap.size) rs cs) (hP : ∀ r ∈ rs, P r) (hb : Below w0.heap.size w0 w) : SrtSt w0 P g rs.length cap w (itemsOf rs cs) := by
  refine ⟨?_, items_good hc hP, hb⟩
  unfold SrtR
  rw [items_fst rs cs (by rw [hc.len]; omega)]
  exact h
theorem items_end {w0 w : World} {P : List ByteArray → Prop} {g n cap : Nat} {d : Nat → Item} (h : SrtSt w0 P g n cap w d) : w.ownsRow w0.heap.size 90 1 (.slice (some ⟨g, 0, none⟩) n cap) n ((Stab.seg d 0 n).map Prod.fst) ∧ CellsG 1 (rowC w0 w0.heap.size) ((Stab.seg d 0 n).map Prod.snd) ((Stab.seg d 0 n).map Prod.fst) :=
  ⟨h.row, CellsG.mapI _ fun x hx => by
    obtain ⟨t, h1, h2, rfl⟩ := Stab.mem_seg.1 hx
    exact (h.good t h2).2⟩
theorem mrg_map (lt : List ByteArray → List ByteArray → Bool) : ∀ (xs ys : List Item), (Stab.mrg (ltI lt) xs ys).map Prod.snd = Stab.mrg lt (xs.map Prod.snd) (ys.map Prod.snd)
  | [], ys => by simp [Stab.mrg_nil_left]
  | x :: xs, [] => by simp [Stab.mrg_nil_right]
  | x :: xs, y :: ys => by
    have e1 := mrg_map lt (x :: xs) ys
    have e2 := mrg_map lt xs (y :: ys)
    rw [Stab.mrg_cons, List.map_cons, List.map_cons, Stab.mrg_cons]
    have e : ltI lt y x = lt y.2 x.2 := rfl
    rw [e]
    split
    · rw [List.map_cons, e1]; rfl
    · rw [List.map_cons, e2]; rfl
termination_by xs ys => xs.length + ys.length
theorem srt_map (lt : List ByteArray → List ByteArray → Bool) (l : List Item) : (Stab.srt (ltI lt) l).map Prod.snd = Stab.srt lt (l.map Prod.snd) := by
  have : ∀ (l acc : List Item), (l.foldl (fun acc r => Stab.mrg (ltI lt) acc [r]) acc).map Prod.snd = (l.map Prod.snd).foldl (fun acc r => Stab.mrg lt acc [r]) (acc.map Prod.snd) := by
    intro l
    induction l with
    | nil => intro acc; rfl
    | cons x r ih =>
      intro acc
      rw [List.foldl_cons, ih, mrg_map]
      rfl
  exact this l []

/-- What is made of rows: those that stay, in order, cut, their columns. -/
def selB (b : TableD) (d : QueryD) : List ByteArray := if d.cols.length = 0 then b.cols else d.cols
def sortedB (cols : List ByteArray) (d : QueryD) (rs : List (List ByteArray)) : List (List ByteArray) := if d.order = ⟨#[]⟩ then rs else Stab.srt (ltK d.desc (placeI cols d.order).toNat) rs
def cutB (limit : Int) (rs : List (List ByteArray)) : List (List ByteArray) := if limit = 0 then rs else rs.take limit.toNat
def projB (cols sel : List ByteArray) (r : List ByteArray) : List ByteArray := sel.map fun c => r.getD (placeI cols c).toNat ByteArray.empty
def madeB (b : TableD) (d : QueryD) (rs : List (List ByteArray)) : List (List ByteArray) := (cutB d.limit (sortedB b.cols d (rs.filter (staysB b.cols d.wher)))).map (projB b.cols (selB b d))
end Go.Proofs.YtalpafaflgddpaaGreatDoor

namespace Go.Proofs.YtalpafaflgddpaaGreatDoor
open Go.RowKit

theorem cellB_any (l : List ByteArray) : (l.any fun s => !cellB s) = !(l.all cellB) := by
  induction l with
  | nil => rfl
  | cons a r ih => simp only [List.any_cons, List.all_cons, Bool.not_and, ih]
set_option maxHeartbeats 1000000 in
theorem rowOk1_any (s : ByteArray) (w : World) (hs : s.size ≤ 1048576) :
    Calls Tryz.prog 158 #[.string s] w fun e w' => e = .returned (.bool (!cellB s)) ∧ Below w.heap.size w w' := by
  have HK := Lib.hid (cellOk_any s w hs)
  generalize cellB s = y at *
  go_enter Tryz.func158, Tryz.ntmps158
  go_wp2_with fail
  refine HK.out.mono ?_
  rintro e w1 ⟨rfl, hb1⟩
  have HB := Lib.hid hb1
  clear hb1
  go_wp2_with fail
  go_ret
  exact ⟨rfl, HB.out⟩
set_option maxRecDepth 100000 in
set_option maxHeartbeats 2000000 in
theorem rowOk_any (b0 b1 b2 b3 r0 : Value) (b : TableD) (d : List ByteArray) (w : World) (hb : TableR w w.heap.size b0 b1 b2 b3 b) (h : RowR w w.heap.size r0 d) (hs : smallR d) (hpos : 0 < b.cols.length) :
    Calls Tryz.prog 133 #[.agg #[b0, b1, b2, b3], .agg #[r0]] w fun e w' => e = .returned (.bool (rowB b.cols d)) ∧ Below w.heap.size w w' := by
  obtain ⟨rfl, rfl, ⟨A2, n2, p2, rfl, s2, k2⟩, ⟨A3, n3, p3, rfl, s3, k3⟩⟩ := hb
  obtain ⟨A, n, cap, rfl, hS, hcap⟩ := h
  have HR : Hid (rowB b.cols d = (decide (n = n2) && (decide (d.getD 0 ByteArray.empty ≠ ⟨#[]⟩) && d.all cellB))) := by unfold Hid rowB; rw [hS.1, s2.1]
  rw [s2.1] at hpos
  have hn : n ≤ 1048576 := by rw [← hS.1]; exact hs.1
  have HSS := Lib.hid hS
  have HKf := Lib.hid (fun W (hW : Below w.heap.size w W) => ContainsFuncS_any 158 #[] (fun s => !cellB s) A n cap d W (hS.later hW) hn (enters_of Tryz.func158 (by kernel_rfl) rfl) (fun s hss W' _ => rowOk1_any s W' (hs.2 s hss)))
  rw [cellB_any] at HKf
  have HB0 := Lib.hid ((Below.new w (.cells #[.string b.name, .string b.glob, .slice A2 n2 p2, .slice A3 n3 p3] 43)).later (Below.new _ (.cells #[.slice A n cap] 90)))
  clear s2 s3 hS hs
  generalize rowB b.cols d = R at *
  generalize b.name = nm at *
  generalize b.glob = gl at *
  generalize d.all cellB = y at *
  go_enter Tryz.func133, Tryz.ntmps133
  by_cases hlen : n = n2
  case neg =>
    have HE : Hid (R = false) := by unfold Hid; rw [HR.out, decide_eq_false hlen]; rfl
    have hb3 : ((n : Int) == (n2 : Int)) = false := by rw [beq_eq_false_iff_ne]; omega
    have hb4 : (n == n2) = false := by rw [beq_eq_false_iff_ne]; omega
    have hb5 : ((n : Int) != (n2 : Int)) = true := by rw [bne, hb3]; rfl
    clear hlen HR
    go_wp2_with fail
    go_ret
    exact ⟨ret_bool HE.out.symm, HB0.out⟩
  subst hlen
  obtain ⟨bk, o, rfl, hbk, hcell⟩ := (HSS.out.later HB0.out).2 hpos
  have hck := hcell 0 hpos
  rw [Nat.add_zero] at hck
  clear hcell
  have hn0 : (0 : Int) < (n : Int) := by omega
  generalize hd0 : d.getD 0 ByteArray.empty = s0 at *
  by_cases h0 : s0 = ⟨#[]⟩
  · have HE : Hid (R = false) := by unfold Hid; rw [HR.out, decide_eq_false (show ¬ (s0 ≠ ⟨#[]⟩) from fun hh => hh h0)]; simp
    subst h0
    clear HR
    go_wp2_with fail
    go_ret
    exact ⟨ret_bool HE.out.symm, HB0.out⟩
  have HE : Hid (R = y) := by unfold Hid; rw [HR.out, decide_eq_true h0]; simp
  have hbe := str_beq h0
  have hbe3 := ne_empty h0
  clear h0 HR hd0
  go_wp2_with fail
  refine (HKf.out _ HB0.out).mono ?_
  rintro e w1 ⟨rfl, hb1⟩
  have HB1 := Lib.hid (HB0.out.later hb1)
  clear hb1
  cases y
  all_goals
    go_wp2_with fail
    go_ret
    exact ⟨ret_bool HE.out.symm, HB1.out⟩
end Go.Proofs.YtalpafaflgddpaaGreatDoor

namespace Go.Proofs.YtalpafaflgddpaaGreatDoor
open Go.RowKit
set_option linter.unusedVariables false

def PredRow (g : Nat) (lb : Array Value) (p : List ByteArray → Bool) (rs : List (List ByteArray)) (w : World) : Prop :=
  ∀ d ∈ rs, ∀ c0 W, Below w.heap.size w W → RowR W W.heap.size c0 d → Calls Tryz.prog g (#[.agg #[c0]] ++ lb) W fun e w' => e = .returned (.bool (p d)) ∧ Below W.heap.size W w'
set_option maxHeartbeats 1000000 in
theorem IndexFuncRow_any (g : Nat) (lb : Array Value) (p : List ByteArray → Bool) (A : Option Addr) (n c : Nat) (fs : List (List ByteArray)) (w : World) (h : RowsRd w w.heap.size A n fs) (hn : n ≤ 1048576)
    (eg : ∀ args w, (callFunc g args).run Tryz.prog w = .ok (.enter g args) w) (hg : PredRow g lb p fs w) :
    Calls Tryz.prog 135 #[.slice A n c, .func (.func g) #[] lb] w fun e w' => e = .returned (.int .i64 (idxF p fs 0)) ∧ Below w.heap.size w w' := by
  have Hh := Lib.hid h
  have Hlen := Lib.hid h.1
  have Hg := Lib.hid hg
  clear h hg
  go_enter Tryz.func135, Tryz.ntmps135
  go_wp2_with fail
  go_loopw [8] (fun i wr => ∃ k : Nat, k ≤ n ∧ i = .int .i64 k ∧ Below w.heap.size w wr ∧ Hid (idxF p fs 0 = idxF p (fs.drop k) k)) (fun i _ => n - (intOf i).toNat)
  case atStart => exact ⟨0, Nat.zero_le _, rfl, Below.refl _ _, rfl⟩
  case round =>
    obtain ⟨k, hk, rfl, hb, hS⟩ := hrel
    have HB := Lib.hid hb
    clear hb
    by_cases hlt : k < n
    · obtain ⟨b, o, rfl, hbB, hcell⟩ := (Hh.out.later HB.out).2 (by omega)
      obtain ⟨c0, k0, hr⟩ := hcell k hlt
      clear hcell
      have hl : k < fs.length := by rw [Hlen.out]; exact hlt
      have HS := Lib.hid (idxF_step p fs k hl)
      have HK := Lib.hid (Hg.out (fs.getD k default) (getD_memD fs k hl) c0 wr HB.out hr)
      obtain ⟨A1, n1, p1, rfl, _, _⟩ := hr
      clear hl
      generalize fs.getD k default = s at *
      generalize hx : p s = x at *
      have HX := Lib.hid hx
      clear hx
      go_wp2_with fail
      refine HK.out.mono ?_
      rintro e w' ⟨rfl, hb1⟩
      have HB1 := Lib.hid (HB.out.later hb1)
      clear hb1
      cases x
      · go_wp2_with fail
        go_roundw
        case rel => exact ⟨k + 1, by omega, by go_num, HB1.out, by unfold Hid; rw [hS.out, HS.out]; rfl⟩
        case measure => simp [intOf]; omega
      · go_wp2_with fail
        go_ret
        exact ⟨ret_int (by rw [hS.out, HS.out]; rfl), HB1.out⟩
    · have HE : Hid (idxF p fs 0 = -1) := by unfold Hid; rw [hS.out, List.drop_of_length_le (by rw [Hlen.out]; omega)]; rfl
      go_wp2_with fail
      go_ret
      exact ⟨ret_int HE.out.symm, HB.out⟩

theorem zeroRow (w : World) : (zeroValue 90).run Tryz.prog w = .ok (.agg #[.slice none 0 0]) w := by kernel_rfl
/-- A row of the call's own whose cells read as rows of an earlier world. -/
def RowO (R : List Value → List ByteArray → Prop) (base : Nat) (w : World) (fs : List (List ByteArray)) (e : Ending) (w' : World) : Prop := ∃ v cs, e = .returned v ∧ w'.ownsRow base 90 1 v fs.length cs ∧ CellsG 1 R fs cs ∧ Below base w w'
set_option maxRecDepth 100000 in
set_option maxHeartbeats 1000000 in
theorem CloneR_any (w0 : World) (A : Option Addr) (n c : Nat) (fs : List (List ByteArray)) (w : World) (h : RowsRd w0 w0.heap.size A n fs) (hb : Below w0.heap.size w0 w) (hn : n ≤ 1048576) :
    Calls Tryz.prog 95 #[.slice A n c] w (RowO (rowC w0 w0.heap.size) w.heap.size w fs) := by
  obtain ⟨i0, hi, hz0, hz1, hz2⟩ := info_parts infoRowD
  have hlen := h.1
  obtain ⟨cs, hc, hr⟩ := rows_reads h
  have Hh := Lib.hid ((hr.below hb).more hb.size)
  have HC := Lib.hid hc
  have Hlen := Lib.hid hlen
  have H1 := Lib.hid (hc.all rowC_one)
  cases A with
  | none =>
    have hn0 : n = 0 := by
      rcases Nat.eq_zero_or_pos n with h0 | h0
      · exact h0
      · obtain ⟨b, o, e, _⟩ := h.2 h0
        cases e
    have hf0 : Hid (fs.length = 0 ∧ cs = []) := ⟨by rw [hlen, hn0], List.eq_nil_of_length_eq_zero (by rw [hc.len, hlen, hn0])⟩
    clear h hc hr hlen hb
    subst hn0
    have hnil := fun (W : World) => Lib.run_eql_slice_nil (P := Tryz.prog) W 55 90 none 0 c 0 0 Tryz.underlying55
    go_enter Tryz.func95, Tryz.ntmps95
    go_wp2_with fail
    go_ret
    refine ⟨_, cs, rfl, ?_, HC.out, Below.refl _ _⟩
    rw [hf0.out.1, hf0.out.2]
    exact World.ownsRow_nil _ _ _ _
  | some ad =>
    clear h hc hr hlen hb
    have hnil := fun (W : World) => Lib.run_eql_slice_nil (P := Tryz.prog) W 55 90 (some ad) n c 0 0 Tryz.underlying55
    go_enter Tryz.func95, Tryz.ntmps95
    go_wp2_with (at_builtin; refine wpList_append_any _ rfl (.tmp 5) (.tmp 6) 55 rfl w.heap.size 90 i0 _ 1 24 Tryz.underlying55 hi hz0 hz1 hz2 rfl (by decide) _ 0 [] rfl (World.ownsRow_lit _ _ 0 (Nat.le_refl _) (by omega) rfl) w.heap.size (some ad) n c cs rfl (Hh.out.alloc (Nat.le_refl _) _) H1.out ?c1 ?c2 ?c3 ?_)
    case c1 => unfold maxLen; omega
    case c2 => omega
    case c3 => simp
    intro v w1 ho hg _
    have HB := Lib.hid (below_own (w0 := w) (size := 1) (n := 0) (xs := []) (Below.new _ _) (World.ownsRow_lit _ _ 0 (Nat.le_refl _) (by omega) rfl) (Nat.le_refl _) hg)
    have HO := Lib.hid ho
    clear ho hg
    go_wp2_with fail
    go_ret
    exact ⟨_, cs, rfl, by have hx := HO.out; simpa [Hlen.out] using hx, HC.out, HB.out⟩
theorem set1_put (ys : List Value) (i : Nat) (c0 : Value) (h : i < ys.length) : ys.set i c0 = ys.take (i * 1) ++ [c0] ++ ys.drop ((i + 1) * 1) := by
  rw [Nat.mul_one, Nat.mul_one, List.set_eq_take_append_cons_drop, if_pos h]
  simp
set_option maxRecDepth 100000 in
set_option maxHeartbeats 4000000 in
theorem DeleteFuncR_any (g : Nat) (lb : Array Value) (p : List ByteArray → Bool) (v : Value) (fs : List (List ByteArray)) (cs : List Value) (w0 w : World) (R : List Value → List ByteArray → Prop) (hR : ∀ c d, R c d → rowC w0 w0.heap.size c d) (h : w.ownsRow w0.heap.size 90 1 v fs.length cs) (hc : CellsG 1 R fs cs) (hb : Below w0.heap.size w0 w) (hn : fs.length ≤ 1048576)
    (eg : ∀ args w, (callFunc g args).run Tryz.prog w = .ok (.enter g args) w) (hg : PredRow g lb p fs w0) :
    Calls Tryz.prog 94 #[v, .func (.func g) #[] lb] w (RowO R w0.heap.size w0 (fs.filter fun d => !p d)) := by
  obtain ⟨A, cap, rfl, hcap, hN⟩ := rows_of_row h rfl (hc.mono hR) hb
  obtain ⟨_, _, e0, _, hcm, hA⟩ := Own.own_slice h
  injection e0 with e1 _ e2
  subst e1 e2
  have HK := Lib.hid (IndexFuncRow_any g lb p A fs.length cap fs w hN hn eg (fun d hd c0 W hW hr => hg d hd c0 W (hb.trans (hW.mono hb.size)) hr))
  have HX := Lib.hid (idxF_cases p fs 0)
  have HO0 := Lib.hid h
  have HC := Lib.hid hc
  have HB0 := Lib.hid hb
  have Hg := Lib.hid hg
  clear h hc hb hg hN
  rcases HX.out with ⟨e1, e2⟩ | ⟨k0, hk0, e1, e2⟩
  · rw [e1] at HK
    rw [e2]
    clear e1 e2 HX
    go_enter Tryz.func94, Tryz.ntmps94
    go_wp2_with fail
    refine HK.out.mono ?_
    rintro e w1 ⟨rfl, hb1⟩
    have HB1 := Lib.hid hb1
    clear hb1
    go_wp2_with fail
    go_ret
    exact ⟨_, cs, rfl, Own.own_later HO0.out HB1.out, HC.out, HB0.out.later HB1.out⟩
  · rw [e1, Nat.zero_add] at HK
    obtain ⟨g0, rfl, hgl, hgb⟩ := hA (by omega)
    have HS := Lib.hid (KeptG.start (p := p) HC.out hk0 e2)
    have HL : Hid (cs.length = fs.length * 1) := HC.out.len
    clear e1 e2 HX hA
    generalize hnn : fs.length = n at *
    have Hlen := Lib.hid hnn
    clear hnn
    have hne1 : ((k0 : Int) == -1) = false := beq_eq_false_iff_ne.2 (by omega)
    go_enter Tryz.func94, Tryz.ntmps94
    go_wp2_with fail
    refine HK.out.mono ?_
    rintro e w1 ⟨rfl, hb1⟩
    have HO1 := Lib.hid (Own.own_later HO0.out hb1)
    have HB1 := Lib.hid (HB0.out.later hb1)
    clear hb1
    go_wp2_with fail
    go_loopw [5, 6] (fun i j wr => ∃ (ii jj : Nat) (ys : List Value), i = .int .i64 ii ∧ j = .int .i64 jj ∧ wr.ownsRow w0.heap.size 90 1 (.slice (some ⟨g0, 0, none⟩) n cap) n ys ∧ Hid (KeptG 1 R p fs cs ii jj ys) ∧ Below w0.heap.size w0 wr) (fun _ j _ => n - (intOf j).toNat)
    case atStart => exact ⟨k0, k0 + 1, cs, rfl, by go_num, HO1.out, HS.out, HB1.out⟩
    case round =>
      obtain ⟨i, j, ys, rfl, rfl, ho, hK, hb⟩ := hrel
      have HO := Lib.hid ho
      have HB := Lib.hid hb
      have hij := hK.out.lt
      have hjn : j ≤ n := by have := hK.out.le; rw [Hlen.out] at this; exact this
      have hyl : ys.length = n := by have h := ho.1; rw [Nat.mul_one] at h; exact h
      clear ho hb
      by_cases hlt : j < n
      · have hl : j < fs.length := by rw [Hlen.out]; exact hlt
        obtain ⟨c, _, hRd, hq⟩ := CellsG.at j HC.out hl
        obtain ⟨c0, rfl, hd⟩ := hR _ _ hRd
        have q0 : cs[j]? = some c0 := by simpa using hq 0 (by omega)
        clear hq
        have x0 := Own.own_cell HO.out j c0 (by omega) (by have h := hK.out.cell 0; simp at h; exact h.trans q0)
        have HP := Lib.hid (fun o => Hg.out (fs.getD j default) (getD_memD fs j hl) c0 (wr.alloc o) (HB.out.later (Below.new _ _)) (hd.later (HB.out.later (Below.new _ _))))
        have HKeep := Lib.hid (fun hp => hK.out.keep (by rw [Hlen.out]; exact HL.out) hl hp hRd rfl)
        clear hRd
        have HSkip := Lib.hid (fun hp => hK.out.skip hl hp)
        clear q0 hl
        generalize fs.getD j default = d at *
        generalize hx : p d = x at *
        clear hx
        obtain ⟨A1, n1, p1, rfl, _, _⟩ := hd
        go_wp2_with fail
        refine (HP.out _).mono ?_
        rintro e w2 ⟨rfl, hb2⟩
        have b0 := box_at hb2 0
        simp at b0
        have hO2 := Own.own_later (Own.own_later HO.out (Below.new wr _)) hb2
        have HB2 := Lib.hid (HB.out.later ((Below.new wr _).later hb2))
        have HO2 := Lib.hid hO2
        clear x0
        cases x
        · obtain ⟨cur, hblk⟩ := Own.own_blk hO2
          have t0 := Own.own_cell hO2 i _ (by omega) (List.getElem?_eq_getElem (show i < ys.length by omega))
          have f0 := hblk.frozen i
          have s1 := hO2.stored i (.slice A1 n1 p1)
          have HO3 := Lib.hid s1.1
          rw [set1_put ys i _ (by omega)] at HO3
          have HB3 := Lib.hid (below_own HB2.out hO2 (Nat.le_refl _) s1.2)
          have HK3 := Lib.hid (HKeep.out rfl)
          clear hb2 hblk s1 hO2
          generalize ys[i] = o0 at *
          have hin : i < n := by omega
          go_wp2_with fail
          go_roundw
          case rel => exact ⟨i + 1, j + 1, _, by go_num, by go_num, HO3.out, HK3.out, HB3.out⟩
          case measure => simp [intOf]; omega
        · have HK3 := Lib.hid (HSkip.out rfl)
          clear hb2 hO2
          go_wp2_with fail
          go_roundw
          case rel => exact ⟨i, j + 1, ys, rfl, by go_num, HO2.out, HK3.out, HB2.out⟩
          case measure => simp [intOf]; omega
      · obtain rfl : j = n := by omega
        have hin : i < j := hij
        obtain ⟨w2, hcl, ho2, hg2⟩ := run_clear_own (P := Tryz.prog) (i := i) HO.out 55 Tryz.underlying55 _ zeroRow rfl (fun u hu => by have := zero_cells_mem hu; simp [Value.cells] at this; subst this; rfl) hin (cap - i)
        rw [Nat.mul_one] at hcl
        have HO2 := Lib.hid ho2
        have HB2 := Lib.hid (below_own HB.out HO.out (Nat.le_refl _) hg2)
        have HE : Hid ((fs.filter fun d => !p d).length = i ∧ CellsG 1 R (fs.filter fun d => !p d) (ys.take (i * 1))) := by
          have hk := hK.out
          have hl := Hlen.out
          subst hl
          exact hk.done
        have hcn : ¬ cap = i := by omega
        clear ho2 hg2
        go_wp2_with (simp only [hcl])
        go_ret
        exact ⟨_, _, rfl, by rw [HE.out.1]; exact HO2.out, HE.out.2, HB2.out⟩
end Go.Proofs.YtalpafaflgddpaaGreatDoor

namespace Go.Proofs.YtalpafaflgddpaaGreatDoor
open Go.RowKit
set_option linter.unusedVariables false

theorem swp_mv (d : Nat → Item) {k q : Nat} (hq : q ≤ k) (h0 : 0 < q) : Stab.mv d k q q = d k ∧ Stab.mv d k q (q - 1) = d (q - 1) := by
  unfold Stab.mv
  exact ⟨if_pos rfl, by rw [if_neg (by omega), if_neg (by omega)]⟩
theorem lt_of_cmp {cmp : List ByteArray → List ByteArray → Int} {lt : List ByteArray → List ByteArray → Bool} (h : ∀ x y, decide (cmp x y < 0) = lt x y) (a b : Item) : (cmp a.2 b.2 < 0 → ltI lt a b = true) ∧ (¬ cmp a.2 b.2 < 0 → ltI lt a b = false) := by
  unfold ltI
  rw [← h]
  exact ⟨fun h => decide_eq_true h, fun h => decide_eq_false h⟩
set_option maxRecDepth 100000 in
set_option maxHeartbeats 4000000 in
theorem insertion_any (f : Nat) (caps : Array Value) (cmp : List ByteArray → List ByteArray → Int) (lt : List ByteArray → List ByteArray → Bool) (P : List ByteArray → Prop) (w0 : World) (hw : Stab.Weak lt) (hlt : ∀ x y, decide (cmp x y < 0) = lt x y) (hc : CmpOk f caps cmp P w0)
    (eg : ∀ args w, (callFunc f args).run Tryz.prog w = .ok (.enter f args) w) (g n cap a b : Nat) (d : Nat → Item) (w : World) (h : SrtSt w0 P g n cap w d) (hab : a ≤ b) (hbn : b ≤ n) (hn : n ≤ 1048576) :
    Calls Tryz.prog 160 #[(.slice (some ⟨g, 0, none⟩) n cap), .int .i64 a, .int .i64 b, .func (.func f) #[] caps] w fun e w' => e = .returned (.tuple #[]) ∧ ∃ d', SrtSt w0 P g n cap w' d' ∧ Stab.Same d d' a b ∧ Stab.seg d' a b = Stab.srt (ltI lt) (Stab.seg d a b) := by
  have HW := Lib.hid (ltI_weak hw)
  have HLT := Lib.hid hlt
  have HC := Lib.hid hc
  have HS := Lib.hid h
  clear hw hlt hc h
  go_enter Tryz.func160, Tryz.ntmps160
  go_wp2_with fail
  go_loopw [8] (fun i wr => ∃ (k : Nat) (dd : Nat → Item), i = .int .i64 k ∧ a + 1 ≤ k ∧ (k ≤ b ∨ a = b) ∧ Hid (SrtSt w0 P g n cap wr dd) ∧ Hid (Stab.Same d dd a b) ∧ Hid (Stab.seg dd a k = Stab.srt (ltI lt) (Stab.seg d a k)) ∧ Hid (∀ t, k ≤ t → dd t = d t)) (fun i _ => b - (intOf i).toNat)
  case atStart => exact ⟨a + 1, d, by go_num, Nat.le_refl _, by omega, HS.out, Stab.Same.refl _ _ _, by unfold Hid; rw [Stab.seg_cons _ (Nat.lt_succ_self a), Stab.seg_nil _ (Nat.le_refl _)]; simp [Stab.srt, Stab.mrg_nil_left], fun t _ => rfl⟩
  case round =>
    obtain ⟨k, dd, rfl, hak, hkb, hSt, hSame, hseg, hrest⟩ := hrel
    by_cases hlt : k < b
    · go_wp2_with fail
      go_loopw [9] (fun j wr2 => ∃ (q : Nat), j = .int .i64 q ∧ a ≤ q ∧ q ≤ k ∧ Hid (SrtSt w0 P g n cap wr2 (Stab.mv dd k q)) ∧ Hid (q = k ∨ ltI lt (dd k) (dd q) = true)) (fun j _ => (intOf j).toNat)
      case atStart => exact ⟨k, rfl, by omega, Nat.le_refl _, by rw [Stab.mv_self]; exact hSt.out, .inl rfl⟩
      case round =>
        obtain ⟨q, rfl, haq, hqk, hSt2, hcut⟩ := hrel
        have hw2 := hSt2.out.row.lt.2
        by_cases hq : a < q
        · obtain ⟨p, hp⟩ : ∃ p, q = p + 1 := ⟨q - 1, by omega⟩
          have hq1 : 0 < q := by omega
          obtain ⟨e1, e2⟩ := swp_mv dd hqk hq1
          have HSwap := Lib.hid (fun W (hW : Below wr.heap.size wr W) => (hSt2.out.later hW).swap (show q < n by omega) (show q - 1 < n by omega))
          rw [e1, e2, Stab.mv_step dd hq1 hqk] at HSwap
          rw [show q - 1 = p by omega] at e2 HSwap
          have x1 := hSt2.out.row.at (show q < n by omega)
          have x2 := hSt2.out.row.at (show p < n by omega)
          have HK := Lib.hid (fun W (hW : Below wr.heap.size wr W) => HC.out.at hSt2.out.good (hSt2.out.below.later hW) (show q < n by omega) (show p < n by omega))
          have HLt := Lib.hid (lt_of_cmp HLT.out (dd k) (dd p))
          rw [e1, e2] at HK
          rw [e1] at x1
          rw [e2] at x2
          obtain ⟨A1, l1, c1, f1⟩ := hSt2.out.good.val (show q < n by omega)
          obtain ⟨A2, l2, c2, f2⟩ := hSt2.out.good.val (show p < n by omega)
          rw [e1] at f1
          rw [e2] at f2
          rw [f1] at x1 HK HSwap
          rw [f2] at x2 HK HSwap
          have i2 : (q : Int) - 1 = (p : Int) := by omega
          have hqn : (q : Int) < (n : Int) := by omega
          have hqz : (a : Int) < (q : Int) := by omega
          have hqd : decide (a < q) = true := by simp; omega
          have hpn : (p : Int) < (n : Int) := by omega
          have hpn' : p < n := by omega
          have HSL : Hid (∀ W, Below wr.heap.size wr W → SrtSt w0 P g n cap W (Stab.mv dd k q)) := fun W hW => hSt2.out.later hW
          have HRd : Hid (∀ W', Below wr.heap.size wr W' → (W'.cell? ⟨g, q, none⟩ = some (.slice A1 l1 c1) ∧ W'.cell? ⟨g, p, none⟩ = some (.slice A2 l2 c2))) := fun W' hW => ⟨cell_later hW x1, cell_later hW x2⟩
          have HP := Lib.hid hp
          clear e1 e2 f1 f2 hSt2 hp
          generalize cmp (dd k).2 (dd p).2 = cv at *
          go_wp2_with fail
          have hw1 : IntKind.i64.wrap (p : Int) = (p : Int) := IntWalk.i64_in _ (by omega)
          have hw2 : (0 : Int) ≤ (p : Int) := by omega
          have hw3 : ((p : Int)).toNat = p := by omega
          go_region_held3 (fun W' => W'.cell? ⟨g, q, none⟩ = some (.slice A1 l1 c1) ∧ W'.cell? ⟨g, p, none⟩ = some (.slice A2 l2 c2))
            (first | exact HRd.out _ hb1 | exact HRd.out _ (Below.refl wr.heap.size wr).drew)
            (first | (go_at_fn f; refine (HK.out _ (by exact (Below.refl wr.heap.size wr).drew)).mono ?_; rintro e w1 ⟨rfl, hb1'⟩; have hb1 := undrew hb1'; clear hb1'))
          have HS1 := Lib.hid (HSL.out _ hb1)
          have hw2' := HS1.out.row.lt.2
          by_cases hcv : cv < 0
          · obtain ⟨x1', x2'⟩ := HRd.out _ hb1
            have y1 := HS1.out.row.frozen q
            have y2 := HS1.out.row.frozen p
            have HN := Lib.hid (HSwap.out _ hb1)
            have HLT2 := Lib.hid (HLt.out.1 hcv)
            have hpq : ¬ p = q := by have := HP.out; omega
            have hqp : ¬ q = p := by have := HP.out; omega
            clear hb1 x1 x2 HRd HSL HSwap HK hcut
            go_wp2_with fail
            go_region
            have hSt3 := Lib.hid (HN.out.later (Below.refl _ _).drew)
            obtain ⟨W9, hW9⟩ : ∃ W9, W9 = ((w1.setCell ⟨g, q, none⟩ (.slice A2 l2 c2)).setCell ⟨g, p, none⟩ (.slice A1 l1 c1)).drew := ⟨_, rfl⟩
            rw [← hW9] at hSt3 ⊢
            clear hW9 x1' x2' y1 y2
            go_wp2_with fail
            go_roundw
            case rel => exact ⟨p, by go_num, by have := HP.out; omega, by have := HP.out; omega, hSt3.out, .inr HLT2.out⟩
            case measure => have := HP.out; simp [intOf]; omega
          · have HLT2 := Lib.hid (HLt.out.2 (by omega))
            have HEnd := Lib.hid (Stab.ins_cut HW.out (d := dd) (a := a) (i := k) (j := q) (by rw [hseg.out]; exact Stab.srt_srt HW.out _) haq hqk (.inr (by rw [show q - 1 = p by have := HP.out; omega]; exact HLT2.out)) hcut.out)
            clear hb1 x1 x2 HRd HSL HSwap HK
            go_wp2_with fail
            go_roundw
            case rel => exact ⟨k + 1, Stab.mv dd k q, by go_num, by omega, .inl (by omega), HS1.out, hSame.out.trans (Stab.mv_same dd haq hqk hlt), by unfold Hid; rw [HEnd.out, hseg.out, hrest.out k (Nat.le_refl _), Stab.seg_snoc d (show a ≤ k by omega), Stab.srt_snoc], fun t ht => by unfold Stab.mv; rw [if_neg (by omega), if_neg (by omega)]; exact hrest.out t (by omega)⟩
            case measure => simp [intOf]; omega
        · obtain rfl : q = a := by omega
          have HEnd := Lib.hid (Stab.ins_cut HW.out (d := dd) (a := q) (i := k) (j := q) (by rw [hseg.out]; exact Stab.srt_srt HW.out _) haq hqk (.inl rfl) hcut.out)
          have HS1 := Lib.hid hSt2.out
          go_wp2_with fail
          go_quiet (fail)
          go_wp2_with fail
          go_roundw
          case rel => exact ⟨k + 1, Stab.mv dd k q, by go_num, by omega, .inl (by omega), HS1.out.later (below_drewN (Below.refl _ _) _), hSame.out.trans (Stab.mv_same dd haq hqk hlt), by unfold Hid; rw [HEnd.out, hseg.out, hrest.out k (Nat.le_refl _), Stab.seg_snoc d (show q ≤ k by omega), Stab.srt_snoc], fun t ht => by unfold Stab.mv; rw [if_neg (by omega), if_neg (by omega)]; exact hrest.out t (by omega)⟩
          case measure => simp [intOf]; omega
    · have hkk : k = b ∨ a = b := by omega
      have HE : Hid (Stab.seg dd a b = Stab.srt (ltI lt) (Stab.seg d a b)) := by
        unfold Hid
        rcases hkk with e | e
        · rw [← e]; exact hseg.out
        · subst e
          rw [Stab.seg_nil dd (Nat.le_refl _), Stab.seg_nil d (Nat.le_refl _)]
          rfl
      clear hkk
      go_wp2_with fail
      go_end0
      exact ⟨rfl, dd, hSt.out, hSame.out, HE.out⟩

set_option maxRecDepth 100000 in
set_option maxHeartbeats 4000000 in
theorem swapRange_any (f : Nat) (caps : Array Value) (P : List ByteArray → Prop) (w0 : World) (g n cap a b m : Nat) (d : Nat → Item) (w : World) (h : SrtSt w0 P g n cap w d) (h1 : a + m ≤ b) (h2 : b + m ≤ n) (hn : n ≤ 1048576) :
    Calls Tryz.prog 208 #[(.slice (some ⟨g, 0, none⟩) n cap), .int .i64 a, .int .i64 b, .int .i64 m, .func (.func f) #[] caps] w fun e w' => e = .returned (.tuple #[]) ∧ SrtSt w0 P g n cap w' (Stab.swr d a b m) := by
  have HS := Lib.hid h
  clear h
  go_enter Tryz.func208, Tryz.ntmps208
  go_wp2_with fail
  go_loopw [10] (fun i wr => ∃ (k : Nat), k ≤ m ∧ i = .int .i64 k ∧ Hid (SrtSt w0 P g n cap wr (Stab.swr d a b k))) (fun i _ => m - (intOf i).toNat)
  case atStart => exact ⟨0, Nat.zero_le _, rfl, by rw [Stab.swr_zero]; exact HS.out⟩
  case round =>
    obtain ⟨k, hk, rfl, hSt⟩ := hrel
    by_cases hlt : k < m
    · obtain ⟨p, hp⟩ : ∃ p, p = a + k := ⟨_, rfl⟩
      obtain ⟨r, hr⟩ : ∃ r, r = b + k := ⟨_, rfl⟩
      have HN := Lib.hid (hSt.out.swap (show p < n by omega) (show r < n by omega))
      have x1 := hSt.out.row.at (show p < n by omega)
      have x2 := hSt.out.row.at (show r < n by omega)
      obtain ⟨A1, l1, c1, f1⟩ := hSt.out.good.val (show p < n by omega)
      obtain ⟨A2, l2, c2, f2⟩ := hSt.out.good.val (show r < n by omega)
      rw [f1] at x1 HN
      rw [f2] at x2 HN
      rw [hp, hr, Stab.swr_step d h1 hlt, ← hp, ← hr] at HN
      have ip : (a : Int) + (k : Int) = (p : Int) := by omega
      have ir : (b : Int) + (k : Int) = (r : Int) := by omega
      have hpn : (p : Int) < (n : Int) := by omega
      have hrn : (r : Int) < (n : Int) := by omega
      have y1 := hSt.out.row.frozen p
      have y2 := hSt.out.row.frozen r
      have z2 := hSt.out.row.lt.2
      have hpr : ¬ p = r := by omega
      have hrp : ¬ r = p := by omega
      have hkz : (k : Int) < (m : Int) := by omega
      clear f1 f2 hp hr
      go_wp2_with fail
      have hw1 : IntKind.i64.wrap (p : Int) = (p : Int) := IntWalk.i64_in _ (by omega)
      have hw2 : (0 : Int) ≤ (p : Int) := by omega
      have hw3 : ((p : Int)).toNat = p := by omega
      have hw4 : IntKind.i64.wrap (r : Int) = (r : Int) := IntWalk.i64_in _ (by omega)
      have hw5 : (0 : Int) ≤ (r : Int) := by omega
      have hw6 : ((r : Int)).toNat = r := by omega
      go_region
      have hSt3 := Lib.hid (HN.out.later (Below.refl _ _).drew)
      obtain ⟨W9, hW9⟩ : ∃ W9, W9 = ((wr.setCell ⟨g, p, none⟩ (.slice A2 l2 c2)).setCell ⟨g, r, none⟩ (.slice A1 l1 c1)).drew := ⟨_, rfl⟩
      rw [← hW9] at hSt3 ⊢
      clear hW9 x1 x2 y1 y2
      go_wp2_with fail
      go_roundw
      case rel => exact ⟨k + 1, by omega, by go_num, hSt3.out⟩
      case measure => simp [intOf]; omega
    · obtain rfl : k = m := by omega
      go_wp2_with fail
      go_end0
      exact ⟨rfl, hSt.out⟩

set_option maxRecDepth 100000 in
set_option maxHeartbeats 4000000 in
theorem rotate_any (f : Nat) (caps : Array Value) (P : List ByteArray → Prop) (w0 : World) (g n cap a m b : Nat) (d : Nat → Item) (w : World) (h : SrtSt w0 P g n cap w d) (h1 : a < m) (h2 : m < b) (h3 : b ≤ n) (hn : n ≤ 1048576) :
    Calls Tryz.prog 186 #[(.slice (some ⟨g, 0, none⟩) n cap), .int .i64 a, .int .i64 m, .int .i64 b, .func (.func f) #[] caps] w fun e w' => e = .returned (.tuple #[]) ∧ SrtSt w0 P g n cap w' (Stab.rot d a m b) := by
  have HS := Lib.hid h
  clear h
  have e1 : (m : Int) - (a : Int) = ((m - a : Nat) : Int) := by omega
  have e2 : (b : Int) - (m : Int) = ((b - m : Nat) : Int) := by omega
  have HE1 := Lib.hid e1
  have HE2 := Lib.hid e2
  clear e1 e2
  go_enter Tryz.func186, Tryz.ntmps186
  go_wp2_with fail
  go_loopw [10, 11] (fun i j wr => ∃ (x y : Nat) (dd : Nat → Item), i = .int .i64 x ∧ j = .int .i64 y ∧ 0 < x ∧ 0 < y ∧ x ≤ m - a ∧ y ≤ b - m ∧ Hid (SrtSt w0 P g n cap wr dd) ∧ Hid (Stab.rot dd (m - x) m (m + y) = Stab.rot d a m b)) (fun i j _ => (intOf i).toNat + (intOf j).toNat)
  case atStart => exact ⟨m - a, b - m, d, by rw [HE1.out], by rw [HE2.out], by omega, by omega, Nat.le_refl _, Nat.le_refl _, HS.out, by unfold Hid; rw [show m - (m - a) = a by omega, show m + (b - m) = b by omega]⟩
  case round =>
    obtain ⟨x, y, dd, rfl, rfl, hx, hy, hxm, hyb, hSt, hR⟩ := hrel
    have hm1 : (m : Int) - (x : Int) = ((m - x : Nat) : Int) := by omega
    have HM1 := Lib.hid hm1
    clear hm1
    by_cases hxy : x = y
    · subst hxy
      have HK := Lib.hid (swapRange_any f caps P w0 g n cap (m - x) m x dd wr hSt.out (by omega) (by omega) hn)
      have HE : Hid (Stab.swr dd (m - x) m x = Stab.rot d a m b) := by unfold Hid; rw [Stab.rot_same dd (show x ≤ m by omega), hR.out]
      rw [HE.out] at HK
      go_wp2_with fail
      rw [HM1.out]
      refine HK.out.mono ?_
      rintro e w1 ⟨rfl, hS1⟩
      have HS1 := Lib.hid hS1
      clear hS1
      go_wp2_with fail
      go_end0
      exact ⟨rfl, HS1.out⟩
    · by_cases hlt : y < x
      · have HK := Lib.hid (swapRange_any f caps P w0 g n cap (m - x) m y dd wr hSt.out (by omega) (by omega) hn)
        have HE : Hid (Stab.rot (Stab.swr dd (m - x) m y) (m - (x - y)) m (m + y) = Stab.rot d a m b) := by unfold Hid; rw [Stab.rot_more dd hlt (show x ≤ m by omega), hR.out]
        have i1 : ((x : Int) == (y : Int)) = false := by rw [beq_eq_false_iff_ne]; omega
        have i2 : ((x : Int) != (y : Int)) = true := by rw [bne, i1]; rfl
        have i3 : (y : Int) < (x : Int) := by omega
        have i4 : (x == y) = false := by rw [beq_eq_false_iff_ne]; omega
        go_wp2_with fail
        rw [HM1.out]
        refine HK.out.mono ?_
        rintro e w1 ⟨rfl, hS1⟩
        have HS1 := Lib.hid hS1
        clear hS1
        go_wp2_with fail
        go_roundw
        case rel => exact ⟨x - y, y, _, by go_num, rfl, by omega, hy, by omega, hyb, HS1.out, HE.out⟩
        case measure => simp [intOf]; omega
      · have hm2 : (m : Int) + (y : Int) - (x : Int) = ((m + y - x : Nat) : Int) := by omega
        have HM2 := Lib.hid hm2
        clear hm2
        have HK := Lib.hid (swapRange_any f caps P w0 g n cap (m - x) (m + y - x) x dd wr hSt.out (by omega) (by omega) hn)
        have HE : Hid (Stab.rot (Stab.swr dd (m - x) (m + y - x) x) (m - x) m (m + (y - x)) = Stab.rot d a m b) := by unfold Hid; rw [Stab.rot_less dd (show x < y by omega) (show x ≤ m by omega), hR.out]
        have i1 : ((x : Int) == (y : Int)) = false := by rw [beq_eq_false_iff_ne]; omega
        have i2 : ((x : Int) != (y : Int)) = true := by rw [bne, i1]; rfl
        have i4 : (x == y) = false := by rw [beq_eq_false_iff_ne]; omega
        go_wp2_with fail
        rw [HM1.out, HM2.out]
        refine HK.out.mono ?_
        rintro e w1 ⟨rfl, hS1⟩
        have HS1 := Lib.hid hS1
        clear hS1
        go_wp2_with fail
        go_roundw
        case rel => exact ⟨x, y - x, _, rfl, by go_num, hx, by omega, hxm, by omega, HS1.out, HE.out⟩
        case measure => simp [intOf]; omega
end Go.Proofs.YtalpafaflgddpaaGreatDoor

namespace Go.Proofs.YtalpafaflgddpaaGreatDoor
open Go.RowKit
set_option linter.unusedVariables false

def MergePost (lt : List ByteArray → List ByteArray → Bool) (P : List ByteArray → Prop) (w0 : World) (g n cap a m b : Nat) (d : Nat → Item) (e : Ending) (w' : World) : Prop := e = .returned (.tuple #[]) ∧ ∃ d', SrtSt w0 P g n cap w' d' ∧ Stab.Same d d' a b ∧ Stab.seg d' a b = Stab.mrg (ltI lt) (Stab.seg d a m) (Stab.seg d m b)
set_option maxRecDepth 100000 in
set_option maxHeartbeats 8000000 in
theorem symMerge_one (f : Nat) (caps : Array Value) (cmp : List ByteArray → List ByteArray → Int) (lt : List ByteArray → List ByteArray → Bool) (P : List ByteArray → Prop) (w0 : World) (hw : Stab.Weak lt) (hlt : ∀ x y, decide (cmp x y < 0) = lt x y) (hc : CmpOk f caps cmp P w0)
    (eg : ∀ args w, (callFunc f args).run Tryz.prog w = .ok (.enter f args) w) (g n cap a m b : Nat) (d : Nat → Item) (w : World) (h : SrtSt w0 P g n cap w d) (ha : m = a + 1) (hmb : m < b) (hbn : b ≤ n) (hn : n ≤ 1048576) (hY : Stab.Srt (ltI lt) (Stab.seg d m b)) :
    Calls Tryz.prog 161 #[(.slice (some ⟨g, 0, none⟩) n cap), .int .i64 a, .int .i64 m, .int .i64 b, .func (.func f) #[] caps] w (MergePost lt P w0 g n cap a m b d) := by
  have HW := Lib.hid (ltI_weak hw)
  have HLT := Lib.hid hlt
  have HC := Lib.hid hc
  have HS := Lib.hid h
  have HY := Lib.hid hY
  have e1 : (m : Int) - (a : Int) = 1 := by omega
  have ham : a < m := by omega
  have HA := Lib.hid ha
  clear hw hlt hc h hY ha
  go_enter Tryz.func161, Tryz.ntmps161
  go_wp2_with fail
  go_loopw [10, 11] (fun i j wr => ∃ (x y : Nat), m ≤ x ∧ x ≤ y ∧ y ≤ b ∧ i = .int .i64 x ∧ j = .int .i64 y ∧ Hid (SrtSt w0 P g n cap wr d) ∧ Hid (x = m ∨ ltI lt (d (x - 1)) (d a) = true) ∧ Hid (y = b ∨ ltI lt (d y) (d a) = false)) (fun i j _ => (intOf j).toNat - (intOf i).toNat)
  case atStart => exact ⟨m, b, Nat.le_refl _, by omega, Nat.le_refl _, rfl, rfl, HS.out, .inl rfl, .inl rfl⟩
  case round =>
    obtain ⟨x, y, hmx, hxy, hyb, rfl, rfl, HST, hlo, hhi⟩ := hrel
    by_cases hl : x < y
    · obtain ⟨h, hh⟩ : ∃ h : Nat, h = (x + y) / 2 := ⟨_, rfl⟩
      have hxh : x ≤ h := by omega
      have hhy : h < y := by omega
      have hI : ((x : Int) + (y : Int)) / 2 = (h : Int) := by omega
      clear hh
      have hw1 : IntKind.i64.wrap (h : Int) = (h : Int) := IntWalk.i64_in _ (by omega)
      have hw2 : (0 : Int) ≤ (h : Int) := by omega
      have hw3 : ((h : Int)).toNat = h := by omega
      have hw4 : (h : Int) < (n : Int) := by omega
      have hw5 : h < n := by omega

      have aw1 : IntKind.i64.wrap (a : Int) = (a : Int) := IntWalk.i64_in _ (by omega)
      have aw2 : (0 : Int) ≤ (a : Int) := by omega
      have aw3 : ((a : Int)).toNat = a := by omega
      have aw4 : (a : Int) < (n : Int) := by omega
      have aw5 : a < n := by omega

      have x1 := HST.out.row.at (show h < n by omega)
      have x2 := HST.out.row.at (show a < n by omega)
      have HK := Lib.hid (fun W (hW : Below wr.heap.size wr W) => HC.out.at HST.out.good (HST.out.below.later hW) (show h < n by omega) (show a < n by omega))
      have HLt := Lib.hid (lt_of_cmp HLT.out (d h) (d a))
      obtain ⟨A1, l1, c1, f1⟩ := HST.out.good.val (show h < n by omega)
      obtain ⟨A2, l2, c2, f2⟩ := HST.out.good.val (show a < n by omega)
      rw [f1] at x1 HK
      rw [f2] at x2 HK
      have HSL : Hid (∀ W, Below wr.heap.size wr W → SrtSt w0 P g n cap W d) := fun W hW => HST.out.later hW
      have HRd : Hid (∀ W', Below wr.heap.size wr W' → (W'.cell? ⟨g, h, none⟩ = some (.slice A1 l1 c1) ∧ W'.cell? ⟨g, a, none⟩ = some (.slice A2 l2 c2))) := fun W' hW => ⟨cell_later hW x1, cell_later hW x2⟩
      clear f1 f2
      generalize cmp (d h).2 (d a).2 = cv at *


      go_wp2_with fail
      go_region_held3 (fun W' => W'.cell? ⟨g, h, none⟩ = some (.slice A1 l1 c1) ∧ W'.cell? ⟨g, a, none⟩ = some (.slice A2 l2 c2))
        (first | exact HRd.out _ hb1 | exact HRd.out _ (Below.refl wr.heap.size wr).drew)
        (first | (go_at_fn f; refine (HK.out _ (by exact (Below.refl wr.heap.size wr).drew)).mono ?_; rintro e w1 ⟨rfl, hb1'⟩; have hb1 := undrew hb1'; clear hb1'))
      have HS1 := Lib.hid (HSL.out _ hb1)
      clear hb1 x1 x2 HRd HSL HK HST

      by_cases hcv : cv < 0
      · have HL2 := Lib.hid (HLt.out.1 hcv)
        have i1 : ¬ (0 : Int) ≤ cv := by omega
        have i2 : decide ((0 : Int) ≤ cv) = false := by simp; omega
        have i3 : decide (cv < 0) = true := by simp; omega
        have i4 : (!decide (cv < 0)) = false := by rw [i3]; rfl
        go_wp2_with fail
        go_roundw
        case rel => exact ⟨h + 1, y, by omega, by omega, hyb, by go_num, rfl, HS1.out, .inr (by rw [Nat.add_sub_cancel]; exact HL2.out), hhi.out⟩
        case measure => simp [intOf]; omega
      · have HL2 := Lib.hid (HLt.out.2 (by omega))
        have i1 : (0 : Int) ≤ cv := by omega
        have i2 : decide ((0 : Int) ≤ cv) = true := by simp; omega
        have i3 : decide (cv < 0) = false := by simp; omega
        have i4 : (!decide (cv < 0)) = true := by rw [i3]; rfl
        go_wp2_with fail
        go_roundw
        case rel => exact ⟨x, h, hmx, hxh, by omega, rfl, rfl, HS1.out, hlo.out, .inr HL2.out⟩
        case measure => simp [intOf]; omega
    · obtain rfl : x = y := by omega
      obtain ⟨p, hp⟩ : ∃ p, x = p + 1 := ⟨x - 1, by omega⟩
      have ip : (x : Int) - 1 = (p : Int) := by omega
      have HCut := Lib.hid (Stab.insu_cut HW.out (d := d) (a := a) (b := b) (j := p) (by rw [← HA.out]; exact HY.out) (by omega) (by omega) (by rcases hlo.out with h | h; exact .inl (by have := HA.out; omega); exact .inr (by rw [show p = x - 1 by omega]; exact h)) (by rcases hhi.out with h | h; exact .inl (by omega); exact .inr (by rw [← hp]; exact h)))
      have HSame := Lib.hid (Stab.mvu_same d (a := a) (b := b) (i := a) (j := p) (Nat.le_refl _) (by omega) (by omega))
      have HP := Lib.hid hp
      have hap : a ≤ p := by omega
      have hpb : p < b := by omega
      clear hp
      go_wp2_with fail
      go_loopw [13] (fun k wr => ∃ (z : Nat), a ≤ z ∧ z ≤ p ∧ k = .int .i64 z ∧ Hid (SrtSt w0 P g n cap wr (Stab.mvu d a z))) (fun k _ => p - (intOf k).toNat)
      case atStart => exact ⟨a, Nat.le_refl _, hap, rfl, by rw [Stab.mvu_self]; exact HST.out⟩
      case round =>
        obtain ⟨z, haz, hzp, rfl, HST⟩ := hrel
        by_cases hl2 : z < p
        · obtain ⟨r, hr⟩ : ∃ r, r = z + 1 := ⟨_, rfl⟩
          have ir : (z : Int) + 1 = (r : Int) := by omega
          have HN := Lib.hid (HST.out.swap (show z < n by omega) (show r < n by omega))
          have x1 := HST.out.row.at (show z < n by omega)
          have x2 := HST.out.row.at (show r < n by omega)
          obtain ⟨A1, l1, c1, f1⟩ := HST.out.good.val (show z < n by omega)
          obtain ⟨A2, l2, c2, f2⟩ := HST.out.good.val (show r < n by omega)
          rw [f1] at x1 HN
          rw [f2] at x2 HN
          rw [hr, Stab.mvu_step d haz, ← hr] at HN
          have y1 := HST.out.row.frozen z
          have y2 := HST.out.row.frozen r
          have z2 := HST.out.row.lt.2
          have hpr : ¬ z = r := by omega
          have hrp : ¬ r = z := by omega
          clear f1 f2 HST

          have zw1 : IntKind.i64.wrap (z : Int) = (z : Int) := IntWalk.i64_in _ (by omega)
          have zw2 : (0 : Int) ≤ (z : Int) := by omega
          have zw3 : ((z : Int)).toNat = z := by omega
          have zw4 : (z : Int) < (n : Int) := by omega
          have zw5 : z < n := by omega

          have rw1 : IntKind.i64.wrap (r : Int) = (r : Int) := IntWalk.i64_in _ (by omega)
          have rw2 : (0 : Int) ≤ (r : Int) := by omega
          have rw3 : ((r : Int)).toNat = r := by omega
          have rw4 : (r : Int) < (n : Int) := by omega
          have rw5 : r < n := by omega

          have hzz : (z : Int) < (p : Int) := by omega
          have HR := Lib.hid hr
          clear hr
          go_wp2_with fail
          go_region
          have hSt3 := Lib.hid (HN.out.later (Below.refl _ _).drew)
          obtain ⟨W9, hW9⟩ : ∃ W9, W9 = ((wr.setCell ⟨g, z, none⟩ (.slice A2 l2 c2)).setCell ⟨g, r, none⟩ (.slice A1 l1 c1)).drew := ⟨_, rfl⟩
          rw [← hW9] at hSt3 ⊢
          clear hW9 x1 x2 y1 y2
          go_wp2_with fail

          go_roundw
          case rel => exact ⟨r, by have := HR.out; omega, by have := HR.out; omega, by go_num, hSt3.out⟩
          case measure => have := HR.out; simp [intOf]; omega
        · obtain rfl : z = p := by omega
          go_wp2_with fail
          go_end0
          refine ⟨rfl, Stab.mvu d a z, HST.out, HSame.out, ?_⟩
          have ha := HA.out
          rw [HCut.out, ha, Stab.seg_cons d (Nat.lt_succ_self a), Stab.seg_nil d (Nat.le_refl _)]

set_option maxRecDepth 100000 in
set_option maxHeartbeats 8000000 in
theorem symMerge_last (f : Nat) (caps : Array Value) (cmp : List ByteArray → List ByteArray → Int) (lt : List ByteArray → List ByteArray → Bool) (P : List ByteArray → Prop) (w0 : World) (hw : Stab.Weak lt) (hlt : ∀ x y, decide (cmp x y < 0) = lt x y) (hc : CmpOk f caps cmp P w0)
    (eg : ∀ args w, (callFunc f args).run Tryz.prog w = .ok (.enter f args) w) (g n cap a m b : Nat) (d : Nat → Item) (w : World) (h : SrtSt w0 P g n cap w d) (ha : a + 1 < m) (hmb : b = m + 1) (hbn : b ≤ n) (hn : n ≤ 1048576) (hX : Stab.Srt (ltI lt) (Stab.seg d a m)) :
    Calls Tryz.prog 161 #[(.slice (some ⟨g, 0, none⟩) n cap), .int .i64 a, .int .i64 m, .int .i64 b, .func (.func f) #[] caps] w (MergePost lt P w0 g n cap a m b d) := by
  have HW := Lib.hid (ltI_weak hw)
  have HLT := Lib.hid hlt
  have HC := Lib.hid hc
  have HS := Lib.hid h
  have HX := Lib.hid hX
  have e1 : (((m : Int) - (a : Int)) == 1) = false := by rw [beq_eq_false_iff_ne]; omega
  have e2 : (b : Int) - (m : Int) = 1 := by omega
  have hmb' : m < b := by omega
  have HMB := Lib.hid hmb
  clear hw hlt hc h hX hmb
  go_enter Tryz.func161, Tryz.ntmps161
  go_wp2_with fail
  go_loopw [14, 15] (fun i j wr => ∃ (x y : Nat), a ≤ x ∧ x ≤ y ∧ y ≤ m ∧ i = .int .i64 x ∧ j = .int .i64 y ∧ Hid (SrtSt w0 P g n cap wr d) ∧ Hid (x = a ∨ ltI lt (d m) (d (x - 1)) = false) ∧ Hid (y = m ∨ ltI lt (d m) (d y) = true)) (fun i j _ => (intOf j).toNat - (intOf i).toNat)
  case atStart => exact ⟨a, m, Nat.le_refl _, by omega, Nat.le_refl _, rfl, rfl, HS.out, .inl rfl, .inl rfl⟩
  case round =>
    obtain ⟨x, y, hmx, hxy, hyb, rfl, rfl, HST, hlo, hhi⟩ := hrel
    by_cases hl : x < y
    · obtain ⟨h, hh⟩ : ∃ h : Nat, h = (x + y) / 2 := ⟨_, rfl⟩
      have hxh : x ≤ h := by omega
      have hhy : h < y := by omega
      have hI : ((x : Int) + (y : Int)) / 2 = (h : Int) := by omega
      clear hh
      have hw1 : IntKind.i64.wrap (h : Int) = (h : Int) := IntWalk.i64_in _ (by omega)
      have hw2 : (0 : Int) ≤ (h : Int) := by omega
      have hw3 : ((h : Int)).toNat = h := by omega
      have hw4 : (h : Int) < (n : Int) := by omega
      have hw5 : h < n := by omega

      have mw1 : IntKind.i64.wrap (m : Int) = (m : Int) := IntWalk.i64_in _ (by omega)
      have mw2 : (0 : Int) ≤ (m : Int) := by omega
      have mw3 : ((m : Int)).toNat = m := by omega
      have mw4 : (m : Int) < (n : Int) := by omega
      have mw5 : m < n := by omega

      have x1 := HST.out.row.at (show m < n by omega)
      have x2 := HST.out.row.at (show h < n by omega)
      have HK := Lib.hid (fun W (hW : Below wr.heap.size wr W) => HC.out.at HST.out.good (HST.out.below.later hW) (show m < n by omega) (show h < n by omega))
      have HLt := Lib.hid (lt_of_cmp HLT.out (d m) (d h))
      obtain ⟨A1, l1, c1, f1⟩ := HST.out.good.val (show m < n by omega)
      obtain ⟨A2, l2, c2, f2⟩ := HST.out.good.val (show h < n by omega)
      rw [f1] at x1 HK
      rw [f2] at x2 HK
      have HSL : Hid (∀ W, Below wr.heap.size wr W → SrtSt w0 P g n cap W d) := fun W hW => HST.out.later hW
      have HRd : Hid (∀ W', Below wr.heap.size wr W' → (W'.cell? ⟨g, m, none⟩ = some (.slice A1 l1 c1) ∧ W'.cell? ⟨g, h, none⟩ = some (.slice A2 l2 c2))) := fun W' hW => ⟨cell_later hW x1, cell_later hW x2⟩
      clear f1 f2
      generalize cmp (d m).2 (d h).2 = cv at *


      by_cases hcv : cv < 0
      · have HL2 := Lib.hid (HLt.out.1 hcv)
        have i3 : decide (cv < 0) = true := by simp; omega
        go_wp2_with fail
        go_region_held3 (fun W' => W'.cell? ⟨g, m, none⟩ = some (.slice A1 l1 c1) ∧ W'.cell? ⟨g, h, none⟩ = some (.slice A2 l2 c2))
          (first | exact HRd.out _ hb1 | exact HRd.out _ (Below.refl wr.heap.size wr).drew)
          (first | (go_at_fn f; refine (HK.out _ (by exact (Below.refl wr.heap.size wr).drew)).mono ?_; rintro e w1 ⟨rfl, hb1'⟩; have hb1 := undrew hb1'; clear hb1'))
        have HS1 := Lib.hid (HSL.out _ hb1)
        clear hb1 x1 x2 HRd HSL HK HST
        go_wp2_with fail
        go_roundw
        case rel => exact ⟨x, h, hmx, hxh, by omega, rfl, rfl, HS1.out, hlo.out, .inr HL2.out⟩
        case measure => simp [intOf]; omega

      · have HL2 := Lib.hid (HLt.out.2 (by omega))
        have i1 : (0 : Int) ≤ cv := by omega
        have i3 : decide (cv < 0) = false := by simp; omega
        go_wp2_with fail
        go_region_held3 (fun W' => W'.cell? ⟨g, m, none⟩ = some (.slice A1 l1 c1) ∧ W'.cell? ⟨g, h, none⟩ = some (.slice A2 l2 c2))
          (first | exact HRd.out _ hb1 | exact HRd.out _ (Below.refl wr.heap.size wr).drew)
          (first | (go_at_fn f; refine (HK.out _ (by exact (Below.refl wr.heap.size wr).drew)).mono ?_; rintro e w1 ⟨rfl, hb1'⟩; have hb1 := undrew hb1'; clear hb1'))
        have HS1 := Lib.hid (HSL.out _ hb1)
        clear hb1 x1 x2 HRd HSL HK HST
        go_wp2_with fail
        go_roundw
        case rel => exact ⟨h + 1, y, by omega, by omega, hyb, by go_num, rfl, HS1.out, .inr (by rw [Nat.add_sub_cancel]; exact HL2.out), hhi.out⟩
        case measure => simp [intOf]; omega

    · obtain rfl : x = y := by omega
      have HCut := Lib.hid (Stab.ins_cut HW.out (d := d) (a := a) (i := m) (j := x) HX.out hmx hyb hlo.out hhi.out)
      have HSame := Lib.hid (Stab.mv_same d (a := a) (b := b) (i := m) (j := x) hmx hyb (by omega))
      go_wp2_with fail
      go_loopw [17] (fun k wr => ∃ (z : Nat), x ≤ z ∧ z ≤ m ∧ k = .int .i64 z ∧ Hid (SrtSt w0 P g n cap wr (Stab.mv d m z))) (fun k _ => (intOf k).toNat)
      case atStart => exact ⟨m, hyb, Nat.le_refl _, rfl, by rw [Stab.mv_self]; exact HST.out⟩
      case round =>
        obtain ⟨z, haz, hzp, rfl, HST⟩ := hrel
        by_cases hl2 : x < z
        · obtain ⟨r, hr⟩ : ∃ r, z = r + 1 := ⟨z - 1, by omega⟩
          have ir : (z : Int) - 1 = (r : Int) := by omega
          have HN := Lib.hid (HST.out.swap (show z < n by omega) (show r < n by omega))
          have x1 := HST.out.row.at (show z < n by omega)
          have x2 := HST.out.row.at (show r < n by omega)
          obtain ⟨A1, l1, c1, f1⟩ := HST.out.good.val (show z < n by omega)
          obtain ⟨A2, l2, c2, f2⟩ := HST.out.good.val (show r < n by omega)
          rw [f1] at x1 HN
          rw [f2] at x2 HN
          rw [show r = z - 1 by omega, Stab.mv_step d (show 0 < z by omega) hzp, show z - 1 = r by omega] at HN
          have y1 := HST.out.row.frozen z
          have y2 := HST.out.row.frozen r
          have z2 := HST.out.row.lt.2
          have hpr : ¬ z = r := by omega
          have hrp : ¬ r = z := by omega
          clear f1 f2 HST

          have zw1 : IntKind.i64.wrap (z : Int) = (z : Int) := IntWalk.i64_in _ (by omega)
          have zw2 : (0 : Int) ≤ (z : Int) := by omega
          have zw3 : ((z : Int)).toNat = z := by omega
          have zw4 : (z : Int) < (n : Int) := by omega
          have zw5 : z < n := by omega

          have rw1 : IntKind.i64.wrap (r : Int) = (r : Int) := IntWalk.i64_in _ (by omega)
          have rw2 : (0 : Int) ≤ (r : Int) := by omega
          have rw3 : ((r : Int)).toNat = r := by omega
          have rw4 : (r : Int) < (n : Int) := by omega
          have rw5 : r < n := by omega

          have hzz : (x : Int) < (z : Int) := by omega
          have HR := Lib.hid hr
          clear hr
          go_wp2_with fail
          go_region
          have hSt3 := Lib.hid (HN.out.later (Below.refl _ _).drew)
          obtain ⟨W9, hW9⟩ : ∃ W9, W9 = ((wr.setCell ⟨g, z, none⟩ (.slice A2 l2 c2)).setCell ⟨g, r, none⟩ (.slice A1 l1 c1)).drew := ⟨_, rfl⟩
          rw [← hW9] at hSt3 ⊢
          clear hW9 x1 x2 y1 y2
          go_wp2_with fail

          go_roundw
          case rel => exact ⟨r, by have := HR.out; omega, by have := HR.out; omega, by go_num, hSt3.out⟩
          case measure => have := HR.out; simp [intOf]; omega
        · obtain rfl : z = x := by omega
          go_wp2_with fail
          go_end0
          refine ⟨rfl, Stab.mv d m z, HST.out, HSame.out, ?_⟩
          rw [HMB.out, HCut.out, Stab.seg_cons d (Nat.lt_succ_self m), Stab.seg_nil d (Nat.le_refl _)]
end Go.Proofs.YtalpafaflgddpaaGreatDoor

namespace Go.Proofs.YtalpafaflgddpaaGreatDoor
open Go.RowKit
set_option linter.unusedVariables false

set_option maxRecDepth 100000 in
set_option maxHeartbeats 8000000 in
theorem symMerge_any (f : Nat) (caps : Array Value) (cmp : List ByteArray → List ByteArray → Int) (lt : List ByteArray → List ByteArray → Bool) (P : List ByteArray → Prop) (w0 : World) (hw : Stab.Weak lt) (hlt : ∀ x y, decide (cmp x y < 0) = lt x y) (hc : CmpOk f caps cmp P w0)
    (eg : ∀ args w, (callFunc f args).run Tryz.prog w = .ok (.enter f args) w) (g n cap : Nat) (hn : n ≤ 1048576) : ∀ (N a m b : Nat) (d : Nat → Item) (w : World), b - a ≤ N → SrtSt w0 P g n cap w d → a < m → m < b → b ≤ n → Stab.Srt (ltI lt) (Stab.seg d a m) → Stab.Srt (ltI lt) (Stab.seg d m b) →
    Calls Tryz.prog 161 #[(.slice (some ⟨g, 0, none⟩) n cap), .int .i64 a, .int .i64 m, .int .i64 b, .func (.func f) #[] caps] w (MergePost lt P w0 g n cap a m b d) := by
  intro N
  induction N with
  | zero => intro a m b d w h1 _ h2 h3; omega
  | succ N ih =>
    intro a m b d w hN h ham hmb hbn hX hY
    by_cases hA : m = a + 1
    · exact symMerge_one f caps cmp lt P w0 hw hlt hc eg g n cap a m b d w h hA hmb hbn hn hY
    by_cases hB : b = m + 1
    · exact symMerge_last f caps cmp lt P w0 hw hlt hc eg g n cap a m b d w h (by omega) hB hbn hn hX
    have HW := Lib.hid (ltI_weak hw)
    have HLT := Lib.hid hlt
    have HC := Lib.hid hc
    have HS := Lib.hid h
    have HX := Lib.hid hX
    have HY := Lib.hid hY
    have HIH := Lib.hid ih
    have e1 : (((m : Int) - (a : Int)) == 1) = false := by rw [beq_eq_false_iff_ne]; omega
    have e2 : (((b : Int) - (m : Int)) == 1) = false := by rw [beq_eq_false_iff_ne]; omega
    have ham2 : a + 1 < m := by omega
    have hmb2 : m + 1 < b := by omega
    obtain ⟨mid, hmid⟩ : ∃ mid, mid = (a + b) / 2 := ⟨_, rfl⟩
    have HMid := Lib.hid hmid
    have hmid1 : a + 1 < mid := by omega
    have hmid2 : mid < b := by omega
    have imid : ((a : Int) + (b : Int)) / 2 = (mid : Int) := by omega
    obtain ⟨q, hq⟩ : ∃ q, q = mid + m := ⟨_, rfl⟩
    have HQ := Lib.hid hq
    have iq : (mid : Int) + (m : Int) = (q : Int) := by omega
    have hqb : q ≤ 2097152 := by omega
    obtain ⟨p, hp⟩ : ∃ p, q = p + 1 := ⟨q - 1, by omega⟩
    have HP := Lib.hid hp
    have ip : (q : Int) - 1 = (p : Int) := by omega
    obtain ⟨lo, hlo0⟩ : ∃ lo, lo = if m > mid then mid + m - b else a := ⟨_, rfl⟩
    obtain ⟨hi, hhi0⟩ : ∃ hi, hi = if m > mid then mid else m := ⟨_, rfl⟩
    have HLo := Lib.hid hlo0
    have HHi := Lib.hid hhi0
    have hlh : a ≤ lo ∧ lo ≤ hi ∧ hi ≤ p ∧ p - lo < n ∧ hi ≤ m ∧ hi ≤ mid := by split at hlo0 <;> split at hhi0 <;> omega
    obtain ⟨b1, b2, b3, b4, b5, b6⟩ := hlh
    clear hw hlt hc h hX hY ih hA hB hmid hq hp
    go_enter Tryz.func161, Tryz.ntmps161
    go_upto_if 140 with fail
    go_cut [20, 21] (fun u v wx => u = .int .i64 (lo : Nat) ∧ v = .int .i64 (hi : Nat) ∧ wx = w)
    case first => as_aux_lemma =>
      by_cases hmm : m > mid
      · rw [if_pos hmm] at hlo0 hhi0
        have ilo : (q : Int) - (b : Int) = (lo : Int) := by have := HQ.out; omega
        have hz : (mid : Int) < (m : Int) := by omega
        go_wp2_with fail
        go_meet
        case rel => exact ⟨by rw [hlo0], by rw [hhi0], rfl⟩
      · rw [if_neg hmm] at hlo0 hhi0
        have hz : (m : Int) ≤ (mid : Int) := by omega
        go_wp2_with fail
        go_meet
        case rel => exact ⟨by rw [hlo0], by rw [hhi0], rfl⟩
    case rest => as_aux_lemma =>
    obtain ⟨rfl, rfl, rfl⟩ := hcut
    clear hlo0 hhi0
    go_wp2_with fail
    go_loopw [20, 21] (fun u v wr => ∃ (x y : Nat), lo ≤ x ∧ x ≤ y ∧ y ≤ hi ∧ u = .int .i64 x ∧ v = .int .i64 y ∧ Hid (SrtSt w0 P g n cap wr d) ∧ Hid (x = lo ∨ ltI lt (d (mid + m - 1 - (x - 1))) (d (x - 1)) = false) ∧ Hid (y = hi ∨ ltI lt (d (mid + m - 1 - y)) (d y) = true)) (fun u v _ => (intOf v).toNat - (intOf u).toNat)
    case atStart => exact ⟨lo, hi, Nat.le_refl _, b2, Nat.le_refl _, rfl, rfl, HS.out, .inl rfl, .inl rfl⟩
    case round => as_aux_lemma =>
      obtain ⟨x, y, hlx, hxy, hyh, rfl, rfl, HST, hlo, hhi⟩ := hrel
      by_cases hl : x < y
      · obtain ⟨c, hc⟩ : ∃ c : Nat, c = (x + y) / 2 := ⟨_, rfl⟩
        have hxc : x ≤ c := by omega
        have hcy : c < y := by omega
        have hI : ((x : Int) + (y : Int)) / 2 = (c : Int) := by omega
        obtain ⟨r, hr⟩ : ∃ r, r = p - c := ⟨_, rfl⟩
        have ir : (p : Int) - (c : Int) = (r : Int) := by omega
        have hrn : r < n := by omega
        have hcn : c < n := by omega
        have HR : Hid (mid + m - 1 - c = r) := by have h1 := HP.out; have h2 := HQ.out; unfold Hid; omega
        clear hc hr
        have rw1 : IntKind.i64.wrap (r : Int) = (r : Int) := IntWalk.i64_in _ (by omega)
        have rw2 : (0 : Int) ≤ (r : Int) := by omega
        have rw3 : ((r : Int)).toNat = r := by omega
        have rw4 : (r : Int) < (n : Int) := by omega
        have rw5 : r < n := by omega

        have cw1 : IntKind.i64.wrap (c : Int) = (c : Int) := IntWalk.i64_in _ (by omega)
        have cw2 : (0 : Int) ≤ (c : Int) := by omega
        have cw3 : ((c : Int)).toNat = c := by omega
        have cw4 : (c : Int) < (n : Int) := by omega
        have cw5 : c < n := by omega

        have x1 := HST.out.row.at (show r < n by omega)
        have x2 := HST.out.row.at (show c < n by omega)
        have HK := Lib.hid (fun W (hW : Below wr.heap.size wr W) => HC.out.at HST.out.good (HST.out.below.later hW) (show r < n by omega) (show c < n by omega))
        have HLt := Lib.hid (lt_of_cmp HLT.out (d r) (d c))
        obtain ⟨A1, l1, c1, f1⟩ := HST.out.good.val (show r < n by omega)
        obtain ⟨A2, l2, c2, f2⟩ := HST.out.good.val (show c < n by omega)
        rw [f1] at x1 HK
        rw [f2] at x2 HK
        have HSL : Hid (∀ W, Below wr.heap.size wr W → SrtSt w0 P g n cap W d) := fun W hW => HST.out.later hW
        have HRd : Hid (∀ W', Below wr.heap.size wr W' → (W'.cell? ⟨g, r, none⟩ = some (.slice A1 l1 c1) ∧ W'.cell? ⟨g, c, none⟩ = some (.slice A2 l2 c2))) := fun W' hW => ⟨cell_later hW x1, cell_later hW x2⟩
        clear f1 f2
        generalize cmp (d r).2 (d c).2 = cv at *


        by_cases hcv : cv < 0
        · have HL2 := Lib.hid (HLt.out.1 hcv)
          have i3 : decide (cv < 0) = true := by simp; omega
          go_wp2_with fail
          go_region_held3 (fun W' => W'.cell? ⟨g, r, none⟩ = some (.slice A1 l1 c1) ∧ W'.cell? ⟨g, c, none⟩ = some (.slice A2 l2 c2))
            (first | exact HRd.out _ hb1 | exact HRd.out _ (Below.refl wr.heap.size wr).drew)
            (first | (go_at_fn f; refine (HK.out _ (by exact (Below.refl wr.heap.size wr).drew)).mono ?_; rintro e w1 ⟨rfl, hb1'⟩; have hb1 := undrew hb1'; clear hb1'))
          have HS1 := Lib.hid (HSL.out _ hb1)
          clear hb1 x1 x2 HRd HSL HK HST
          go_wp2_with fail
          go_roundw
          case rel => exact ⟨x, c, hlx, hxc, by omega, rfl, rfl, HS1.out, hlo.out, .inr (by rw [HR.out]; exact HL2.out)⟩
          case measure => simp [intOf]; omega

        · have HL2 := Lib.hid (HLt.out.2 (by omega))
          have i1 : (0 : Int) ≤ cv := by omega
          have i3 : decide (cv < 0) = false := by simp; omega
          go_wp2_with fail
          go_region_held3 (fun W' => W'.cell? ⟨g, r, none⟩ = some (.slice A1 l1 c1) ∧ W'.cell? ⟨g, c, none⟩ = some (.slice A2 l2 c2))
            (first | exact HRd.out _ hb1 | exact HRd.out _ (Below.refl wr.heap.size wr).drew)
            (first | (go_at_fn f; refine (HK.out _ (by exact (Below.refl wr.heap.size wr).drew)).mono ?_; rintro e w1 ⟨rfl, hb1'⟩; have hb1 := undrew hb1'; clear hb1'))
          have HS1 := Lib.hid (HSL.out _ hb1)
          clear hb1 x1 x2 HRd HSL HK HST
          go_wp2_with fail
          go_roundw
          case rel => exact ⟨c + 1, y, by omega, by omega, hyh, by go_num, rfl, HS1.out, .inr (by rw [Nat.add_sub_cancel, HR.out]; exact HL2.out), hhi.out⟩
          case measure => simp [intOf]; omega

      · obtain rfl : x = y := by omega
        obtain ⟨stop, hstop⟩ : ∃ stop, stop = q - x := ⟨_, rfl⟩
        have is : (q : Int) - (x : Int) = (stop : Int) := by omega
        obtain ⟨q1, q2, q3, q4, q5, q6, hM⟩ := Stab.sym_cut HW.out HX.out HY.out HMid.out (start := x) (stop := stop) (lo := lo) (hi := hi) (by have h1 := HQ.out; omega) hlx hyh HLo.out HHi.out hlo.out hhi.out
        have HM := Lib.hid hM
        have HSS : Hid (x + stop = mid + m) := by have h1 := HQ.out; unfold Hid; omega
        have HParts := Lib.hid (Stab.rot_srt HX.out HY.out q1 q2 q3 q4 q5 q6 HSS.out)
        clear hM hstop hlo hhi
        obtain ⟨WX, rfl⟩ : ∃ WX, WX = wr := ⟨wr, rfl⟩
        obtain ⟨bb, hbb⟩ : ∃ bb : Bool, bb = (decide (x < m) && decide (m < stop)) := ⟨_, rfl⟩
        go_upto_region 39 with fail
        go_cut [185] (fun v wx => v = .bool bb ∧ wx = WX)
        case first => as_aux_lemma =>
          by_cases r1 : x < m
          · by_cases r2 : m < stop
            · have z1 : (x : Int) < (m : Int) := by omega
              have z2 : (m : Int) < (stop : Int) := by omega
              go_wp2_with fail
              go_meet
              case rel => exact ⟨by rw [hbb, decide_eq_true r1, decide_eq_true r2]; rfl, rfl⟩
            · have z1 : (x : Int) < (m : Int) := by omega
              have z2 : (stop : Int) ≤ (m : Int) := by omega
              have z3 : decide ((m : Int) < (stop : Int)) = false := by simp; omega
              go_wp2_with fail
              go_meet
              case rel => exact ⟨by rw [hbb, decide_eq_true r1, decide_eq_false r2]; rfl, rfl⟩
          · have z1 : (m : Int) ≤ (x : Int) := by omega
            have z3 : decide ((x : Int) < (m : Int)) = false := by simp; omega
            go_wp2_with fail
            go_meet
            case rel => exact ⟨by rw [hbb, decide_eq_false r1]; rfl, rfl⟩
        case rest => as_aux_lemma =>
        obtain ⟨rfl, rfl⟩ := hcut
        obtain ⟨WX, rfl⟩ : ∃ WX, WX = wc := ⟨wc, rfl⟩
        go_upto_if 185 with fail
        go_cut [24] (fun v wx => v = .int .i64 (stop : Nat) ∧ Hid (SrtSt w0 P g n cap wx (Stab.rot d x m stop)))
        case first => as_aux_lemma =>
          cases bb
          · have HS1 : Hid (SrtSt w0 P g n cap WX (Stab.rot d x m stop)) := by unfold Hid; rw [Stab.rot_id d q2 q3 (fun h => by rw [decide_eq_true h.1, decide_eq_true h.2] at hbb; cases hbb)]; exact HST.out
            clear hbb
            go_wp2_with fail
            go_meet
            case rel => exact ⟨rfl, HS1.out⟩
          · have r1 : x < m ∧ m < stop := by simpa using hbb.symm
            clear hbb
            have HK := Lib.hid (rotate_any f caps P w0 g n cap x m stop d _ HST.out r1.1 r1.2 (by omega) hn)
            go_wp2_with fail
            refine HK.out.mono ?_
            rintro e w1 ⟨rfl, hS1⟩
            have HS1 := Lib.hid hS1
            clear hS1
            go_wp2_with fail
            go_meet
            case rel => exact ⟨rfl, HS1.out⟩
        case rest => as_aux_lemma =>
        obtain ⟨rfl, HS1⟩ := hcut
        obtain ⟨W1, rfl⟩ : ∃ W1, W1 = wc := ⟨wc, rfl⟩
        obtain ⟨d1, hd1⟩ : ∃ d1, d1 = Stab.rot d x m stop := ⟨_, rfl⟩
        have HD1 := Lib.hid hd1
        rw [← hd1] at HS1 HParts
        clear hd1 hbb
        obtain ⟨bc, hbc⟩ : ∃ bc : Bool, bc = (decide (a < x) && decide (x < mid)) := ⟨_, rfl⟩
        go_upto_region 41 with fail
        go_cut [199] (fun v wx => v = .bool bc ∧ wx = W1)
        case first => as_aux_lemma =>
          by_cases r1 : a < x
          · by_cases r2 : x < mid
            · have z1 : (a : Int) < (x : Int) := by omega
              have z2 : (x : Int) < (mid : Int) := by omega
              go_wp2_with fail
              go_meet
              case rel => exact ⟨by rw [hbc, decide_eq_true r1, decide_eq_true r2]; rfl, rfl⟩
            · have z1 : (a : Int) < (x : Int) := by omega
              have z2 : (mid : Int) ≤ (x : Int) := by omega
              have z3 : decide ((x : Int) < (mid : Int)) = false := by simp; omega
              go_wp2_with fail
              go_meet
              case rel => exact ⟨by rw [hbc, decide_eq_true r1, decide_eq_false r2]; rfl, rfl⟩
          · have z1 : (x : Int) ≤ (a : Int) := by omega
            have z3 : decide ((a : Int) < (x : Int)) = false := by simp; omega
            go_wp2_with fail
            go_meet
            case rel => exact ⟨by rw [hbc, decide_eq_false r1]; rfl, rfl⟩
        case rest => as_aux_lemma =>
        obtain ⟨rfl, rfl⟩ := hcut
        obtain ⟨W1, rfl⟩ : ∃ W1, W1 = wc := ⟨wc, rfl⟩
        go_upto_if 199 with fail
        go_cut [24] (fun v wx => v = .int .i64 (stop : Nat) ∧ ∃ d2, Hid (SrtSt w0 P g n cap wx d2) ∧ Hid (Stab.Same d1 d2 a mid) ∧ Hid (Stab.seg d2 a mid = Stab.mrg (ltI lt) (Stab.seg d1 a x) (Stab.seg d1 x mid)))
        case first => as_aux_lemma =>
          cases bc
          · have HE := Lib.hid (Stab.one_mrg_nil (lt := ltI lt) d1 q1 q5 (fun h => by rw [decide_eq_true h.1, decide_eq_true h.2] at hbc; cases hbc))
            clear hbc
            go_wp2_with fail
            go_meet
            case rel => exact ⟨rfl, d1, HS1.out, Stab.Same.refl _ _ _, HE.out⟩
          · have r1 : a < x ∧ x < mid := by simpa using hbc.symm
            clear hbc
            have HK := Lib.hid (HIH.out a x mid d1 _ (by omega) HS1.out r1.1 r1.2 (by omega) HParts.out.1 HParts.out.2.1)
            go_wp2_with fail
            refine HK.out.mono ?_
            rintro e w1 ⟨rfl, d2, hS2, hSame, hE⟩
            have HS2 := Lib.hid hS2
            have HSame := Lib.hid hSame
            have HE := Lib.hid hE
            clear hS2 hSame hE
            go_wp2_with fail
            go_meet
            case rel => exact ⟨rfl, d2, HS2.out, HSame.out, HE.out⟩
        case rest => as_aux_lemma =>
        obtain ⟨rfl, d2, HS2, HSame2, HE2⟩ := hcut
        obtain ⟨W2, rfl⟩ : ∃ W2, W2 = wc := ⟨wc, rfl⟩
        clear hbc
        have HP2 : Hid (Stab.Srt (ltI lt) (Stab.seg d2 mid stop) ∧ Stab.Srt (ltI lt) (Stab.seg d2 stop b)) := by
          refine ⟨?_, ?_⟩
          · rw [Stab.seg_congr (d' := d1) (fun t t1 t2 => HSame2.out t (by omega))]; exact HParts.out.2.2.1
          · rw [Stab.seg_congr (d' := d1) (fun t t1 t2 => HSame2.out t (by omega))]; exact HParts.out.2.2.2
        have HJoin : Hid (∀ d3, Stab.Same d2 d3 mid b → Stab.seg d3 mid b = Stab.mrg (ltI lt) (Stab.seg d2 mid stop) (Stab.seg d2 stop b) → Stab.Same d d3 a b ∧ Stab.seg d3 a b = Stab.mrg (ltI lt) (Stab.seg d a m) (Stab.seg d m b)) := fun d3 h1 h2 => by
          have h3 := HSame2.out
          have h4 := HE2.out
          rw [HD1.out] at h3 h4
          exact Stab.sym_join q1 q2 q3 q4 q5 q6 HSS.out HM.out h3 h4 h1 h2
        obtain ⟨bd, hbd⟩ : ∃ bd : Bool, bd = (decide (mid < stop) && decide (stop < b)) := ⟨_, rfl⟩
        go_upto_region 43 with fail
        go_cut [213] (fun v wx => v = .bool bd ∧ wx = W2)
        case first => as_aux_lemma =>
          by_cases r1 : mid < stop
          · by_cases r2 : stop < b
            · have z1 : (mid : Int) < (stop : Int) := by omega
              have z2 : (stop : Int) < (b : Int) := by omega
              go_wp2_with fail
              go_meet
              case rel => exact ⟨by rw [hbd, decide_eq_true r1, decide_eq_true r2]; rfl, rfl⟩
            · have z1 : (mid : Int) < (stop : Int) := by omega
              have z2 : (b : Int) ≤ (stop : Int) := by omega
              have z3 : decide ((stop : Int) < (b : Int)) = false := by simp; omega
              go_wp2_with fail
              go_meet
              case rel => exact ⟨by rw [hbd, decide_eq_true r1, decide_eq_false r2]; rfl, rfl⟩
          · have z1 : (stop : Int) ≤ (mid : Int) := by omega
            have z3 : decide ((mid : Int) < (stop : Int)) = false := by simp; omega
            go_wp2_with fail
            go_meet
            case rel => exact ⟨by rw [hbd, decide_eq_false r1]; rfl, rfl⟩
        case rest => as_aux_lemma =>
        obtain ⟨rfl, rfl⟩ := hcut
        obtain ⟨W2, rfl⟩ : ∃ W2, W2 = wc := ⟨wc, rfl⟩
        cases bd
        · have HE := Lib.hid (HJoin.out d2 (Stab.Same.refl _ _ _) (Stab.one_mrg_nil (lt := ltI lt) d2 q6 q4 (fun h => by rw [decide_eq_true h.1, decide_eq_true h.2] at hbd; cases hbd)))
          clear hbd
          go_wp2_with fail
          go_end0
          exact ⟨rfl, d2, HS2.out, HE.out.1, HE.out.2⟩
        · have r1 : mid < stop ∧ stop < b := by simpa using hbd.symm
          clear hbd
          have HK := Lib.hid (HIH.out mid stop b d2 _ (by omega) HS2.out r1.1 r1.2 (by omega) HP2.out.1 HP2.out.2)
          go_wp2_with fail
          refine HK.out.mono ?_
          rintro e w1 ⟨rfl, d3, hS3, hSame, hE⟩
          have HS3 := Lib.hid hS3
          have HE := Lib.hid (HJoin.out d3 hSame hE)
          clear hS3 hSame hE
          go_wp2_with fail
          go_end0
          exact ⟨rfl, d3, HS3.out, HE.out.1, HE.out.2⟩
end Go.Proofs.YtalpafaflgddpaaGreatDoor

namespace Go.Proofs.YtalpafaflgddpaaGreatDoor
open Go.RowKit
set_option linter.unusedVariables false

def StablePost (lt : List ByteArray → List ByteArray → Bool) (P : List ByteArray → Prop) (w0 : World) (g n cap : Nat) (d : Nat → Item) (e : Ending) (w' : World) : Prop := e = .returned (.tuple #[]) ∧ ∃ d', SrtSt w0 P g n cap w' d' ∧ Stab.seg d' 0 n = Stab.srt (ltI lt) (Stab.seg d 0 n)
set_option maxRecDepth 100000 in
set_option maxHeartbeats 8000000 in
theorem stable_any (f : Nat) (caps : Array Value) (cmp : List ByteArray → List ByteArray → Int) (lt : List ByteArray → List ByteArray → Bool) (P : List ByteArray → Prop) (w0 : World) (hw : Stab.Weak lt) (hlt : ∀ x y, decide (cmp x y < 0) = lt x y) (hc : CmpOk f caps cmp P w0)
    (eg : ∀ args w, (callFunc f args).run Tryz.prog w = .ok (.enter f args) w) (g n cap : Nat) (hn : n ≤ 24) (d : Nat → Item) (w : World) (h : SrtSt w0 P g n cap w d) :
    Calls Tryz.prog 138 #[.slice (some ⟨g, 0, none⟩) n cap, .int .i64 n, .func (.func f) #[] caps] w (StablePost lt P w0 g n cap d) := by
  have HI := Lib.hid (fun a b d' W (hS : SrtSt w0 P g n cap W d') (hab : a ≤ b) (hbn : b ≤ n) => insertion_any f caps cmp lt P w0 hw hlt hc eg g n cap a b d' W hS hab hbn (by omega))
  have HM := Lib.hid (fun a m b d' W (hS : SrtSt w0 P g n cap W d') (h1 : a < m) (h2 : m < b) (h3 : b ≤ n) hX hY => symMerge_any f caps cmp lt P w0 hw hlt hc eg g n cap (by omega) (b - a) a m b d' W (Nat.le_refl _) hS h1 h2 h3 hX hY)
  have HS := Lib.hid h
  have HW := Lib.hid (ltI_weak hw)
  clear hw hlt hc h
  have hcase : n < 20 ∨ n = 20 ∨ 20 < n := by omega
  go_enter Tryz.func138, Tryz.ntmps138
  rcases hcase with hx | hx | hx
  · have z1 : (n : Int) < 20 := by omega
    have HK := Lib.hid (HI.out 0 n d _ HS.out (Nat.zero_le _) (Nat.le_refl _))
    go_wp2_with fail
    refine wp_loop_rounds 1 ?_
    rw [rounds_succ]
    go_wp2_with fail
    refine HK.out.mono ?_
    rintro e w1 ⟨rfl, d1, hS1, _, hE1⟩
    have HS1 := Lib.hid hS1
    have HE1 := Lib.hid hE1
    clear hS1 hE1
    go_wp2_with fail
    refine wp_loop_rounds 1 ?_
    rw [rounds_succ]
    go_wp2_with fail
    go_end0
    exact ⟨rfl, d1, HS1.out, HE1.out⟩
  · subst hx
    have HK := Lib.hid (HI.out 0 20 d _ HS.out (Nat.zero_le _) (Nat.le_refl _))
    go_wp2_with fail
    refine wp_loop_rounds 2 ?_
    rw [rounds_succ]
    go_wp2_with fail
    refine HK.out.mono ?_
    rintro e w1 ⟨rfl, d1, hS1, _, hE1⟩
    have HE1 := Lib.hid hE1
    have HK2 := Lib.hid (HI.out 20 20 d1 _ hS1 (Nat.le_refl _) (Nat.le_refl _))
    clear hS1 hE1
    go_wp2_with fail
    rw [rounds_succ]
    go_wp2_with fail
    refine HK2.out.mono ?_
    rintro e w2 ⟨rfl, d2, hS2, hSame, _⟩
    have HS2 := Lib.hid hS2
    have HE2 : Hid (Stab.seg d2 0 20 = Stab.srt (ltI lt) (Stab.seg d 0 20)) := by unfold Hid; rw [← HE1.out]; exact Stab.seg_congr fun t t1 t2 => hSame t (by omega)
    clear hS2 hSame
    go_wp2_with fail
    refine wp_loop_rounds 1 ?_
    rw [rounds_succ]
    go_wp2_with fail
    go_end0
    exact ⟨rfl, d2, HS2.out, HE2.out⟩
  · have z1 : (20 : Int) < (n : Int) := by omega
    have z2 : (20 : Int) ≤ (n : Int) := by omega
    have z3 : (n : Int) < 40 := by omega
    have HK := Lib.hid (HI.out 0 20 d _ HS.out (Nat.zero_le _) (by omega))
    go_wp2_with fail
    refine wp_loop_rounds 2 ?_
    rw [rounds_succ]
    go_wp2_with fail
    refine HK.out.mono ?_
    rintro e w1 ⟨rfl, d1, hS1, hSame1, hE1⟩
    have HE1 := Lib.hid hE1
    have HSm1 := Lib.hid hSame1
    have HK2 := Lib.hid (HI.out 20 n d1 _ hS1 (by omega) (Nat.le_refl _))
    clear hS1 hE1 hSame1
    go_wp2_with fail
    rw [rounds_succ]
    go_wp2_with fail
    refine HK2.out.mono ?_
    rintro e w2 ⟨rfl, d2, hS2, hSame2, hE2⟩
    have hA : Stab.seg d2 0 20 = Stab.srt (ltI lt) (Stab.seg d 0 20) := by rw [← HE1.out]; exact Stab.seg_congr fun t t1 t2 => hSame2 t (by omega)
    have hB : Stab.seg d2 20 n = Stab.srt (ltI lt) (Stab.seg d 20 n) := by rw [hE2]; congr 1; exact Stab.seg_congr fun t t1 t2 => HSm1.out t (by omega)
    have HK3 := Lib.hid (HM.out 0 20 n d2 _ hS2 (by omega) (by omega) (Nat.le_refl _) (by rw [hA]; exact Stab.srt_srt HW.out _) (by rw [hB]; exact Stab.srt_srt HW.out _))
    have HEnd : Hid (Stab.mrg (ltI lt) (Stab.seg d2 0 20) (Stab.seg d2 20 n) = Stab.srt (ltI lt) (Stab.seg d 0 n)) := by
      unfold Hid
      rw [hA, hB, ← Stab.srt_append HW.out, ← Stab.seg_split d (by omega) (by omega)]
    clear hS2 hSame2 hE2 hA hB
    go_wp2_with fail
    refine wp_loop_rounds 2 ?_
    rw [rounds_succ]
    go_wp2_with fail
    refine wp_loop_rounds 1 ?_
    rw [rounds_succ]
    go_wp2_with fail
    refine HK3.out.mono ?_
    rintro e w3 ⟨rfl, d3, hS3, _, hE3⟩
    have HS3 := Lib.hid hS3
    have HE3 : Hid (Stab.seg d3 0 n = Stab.srt (ltI lt) (Stab.seg d 0 n)) := by unfold Hid; rw [hE3, HEnd.out]
    clear hS3 hE3
    go_wp2_with fail
    rw [rounds_succ]
    go_wp2_with fail
    go_end0
    exact ⟨rfl, d3, HS3.out, HE3.out⟩
set_option maxRecDepth 100000 in
set_option maxHeartbeats 1000000 in
theorem SortStable_any (f : Nat) (caps : Array Value) (cmp : List ByteArray → List ByteArray → Int) (lt : List ByteArray → List ByteArray → Bool) (P : List ByteArray → Prop) (w0 : World) (hw : Stab.Weak lt) (hlt : ∀ x y, decide (cmp x y < 0) = lt x y) (hc : CmpOk f caps cmp P w0)
    (eg : ∀ args w, (callFunc f args).run Tryz.prog w = .ok (.enter f args) w) (g n cap : Nat) (hn : n ≤ 24) (d : Nat → Item) (w : World) (h : SrtSt w0 P g n cap w d) :
    Calls Tryz.prog 101 #[.slice (some ⟨g, 0, none⟩) n cap, .func (.func f) #[] caps] w (StablePost lt P w0 g n cap d) := by
  have HK := Lib.hid (stable_any f caps cmp lt P w0 hw hlt hc eg g n cap hn d w h)
  clear hw hlt hc h eg
  go_enter Tryz.func101, Tryz.ntmps101
  go_wp2_with fail
  refine HK.out.mono ?_
  rintro e w1 ⟨rfl, d1, hS1, hE1⟩
  have HS1 := Lib.hid hS1
  have HE1 := Lib.hid hE1
  clear hS1 hE1
  go_wp2_with fail
  go_end0
  exact ⟨rfl, d1, HS1.out, HE1.out⟩
end Go.Proofs.YtalpafaflgddpaaGreatDoor

namespace Go.Proofs.YtalpafaflgddpaaGreatDoor
open Go.RowKit

theorem RowR.same {w : World} {B : Nat} {v : Value} {x y : List ByteArray} (h : RowR w B v x) (h' : RowR w B v y) : x = y := by
  obtain ⟨A, n, c, rfl, s, _⟩ := h
  obtain ⟨A', n', c', e, s', _⟩ := h'
  injection e with e1 e2 e3
  subst e1 e2 e3
  apply List.ext_getElem (by rw [s.1, s'.1])
  intro i h1 h2
  have hi : i < n := by rw [← s.1]; exact h1
  obtain ⟨b, o, rfl, _, hc⟩ := s.2 (by omega)
  obtain ⟨b', o', e, _, hc'⟩ := s'.2 (by omega)
  injection e with e
  injection e with e1 e2
  subst e1 e2
  have h3 := (hc i hi).symm.trans (hc' i hi)
  rw [List.getD_eq_getElem?_getD, List.getElem?_eq_getElem h1, List.getD_eq_getElem?_getD, List.getElem?_eq_getElem h2] at h3
  simpa using h3
set_option maxRecDepth 100000 in
set_option maxHeartbeats 4000000 in
theorem result2_any (bk qk : Nat) (b0 b1 b2 b3 c0 c1 c2 c3 c4 c5 x0 y0 : Value) (b : TableD) (d : QueryD) (x y : List ByteArray) (kk : Nat) (w : World) (htab : tabT w) (hkb : Blk w bk 43 #[b0, b1, b2, b3]) (hkq : Blk w qk 47 #[c0, c1, c2, c3, c4, c5]) (hb : TableR w w.heap.size b0 b1 b2 b3 b) (h : QueryR w w.heap.size c0 c1 c2 c3 c4 c5 d) (hx : RowR w w.heap.size x0 x) (hy : RowR w w.heap.size y0 y)
    (hbs : b.small) (hxs : smallR x) (hys : smallR y) (hp : placeI b.cols d.order = kk) (hxk : kk < x.length) (hyk : kk < y.length) :
    Calls Tryz.prog 102 #[.agg #[x0], .agg #[y0], .pointer (some ⟨bk, 0, none⟩), .pointer (some ⟨qk, 0, none⟩)] w fun e w' => e = .returned (.int .i64 (cmpK d.desc kk x y)) ∧ Below w.heap.size w w' := by
  obtain ⟨F, hFx, hFy⟩ : ∃ F : Value → ByteArray, F x0 = x.getD kk ByteArray.empty ∧ F y0 = y.getD kk ByteArray.empty := by
    by_cases e : x0 = y0
    · subst e
      rw [hx.same hy]
      exact ⟨fun _ => y.getD kk ByteArray.empty, rfl, rfl⟩
    · classical
      exact ⟨fun v => if v = x0 then x.getD kk ByteArray.empty else y.getD kk ByteArray.empty, if_pos rfl, if_neg (fun h : y0 = x0 => e h.symm)⟩
  have HK2 : Hid (∀ W, Below w.heap.size w W → ∀ r0, r0 = x0 ∨ r0 = y0 → Calls Tryz.prog 100 #[.agg #[b0, b1, b2, b3], .agg #[r0], .string d.order] W fun e w' => e = .returned (.string (F r0)) ∧ Below W.heap.size W w') := fun W hW r0 hr0 => by
    rcases hr0 with rfl | rfl
    · rw [hFx]; exact cell_any b0 b1 b2 b3 _ b x d.order kk W (hb.later hW) (hx.later hW) hbs hp hxk
    · rw [hFy]; exact cell_any b0 b1 b2 b3 _ b y d.order kk W (hb.later hW) (hy.later hW) hbs hp hyk
  have HKc := Lib.hid (fun W (hW : Below w.heap.size w W) => collate_any (x.getD kk ByteArray.empty) (y.getD kk ByteArray.empty) W (tab_later htab hW) (hxs.2 _ (getD_memS x kk hxk)) (hys.2 _ (getD_memS y kk hyk)))
  rw [← hFx, ← hFy] at HKc
  have HR : Hid (cmpK d.desc kk x y = if d.desc = true then -(colI (x.getD kk ByteArray.empty) (y.getD kk ByteArray.empty)) else colI (x.getD kk ByteArray.empty) (y.getD kk ByteArray.empty)) := rfl
  have hbd := colI_bd (x.getD kk ByteArray.empty) (y.getD kk ByteArray.empty)
  rw [← hFx, ← hFy] at HR hbd
  obtain ⟨rfl, rfl, ⟨A2, n2, p2, rfl, s2, k2⟩, ⟨A3, n3, p3, rfl, s3, k3⟩⟩ := hb
  obtain ⟨rfl, ⟨B1, m1, q1, rfl, t1, l1⟩, ⟨B2, m2, q2, rfl, t2, l2⟩, rfl, rfl, rfl⟩ := h
  obtain ⟨R0, rn, rc, rfl, _, _⟩ := hx
  obtain ⟨S0, sn, sc, rfl, _, _⟩ := hy
  have HKB := Lib.hid hkb
  have HKQ := Lib.hid hkq
  have HB0 := Lib.hid ((Below.new w (.cells #[.slice R0 rn rc] 90)).later (Below.new _ (.cells #[.slice S0 sn sc] 90)))
  obtain ⟨WB, hWB⟩ : ∃ WB, WB = (w.alloc (.cells #[.slice R0 rn rc] 90)).alloc (.cells #[.slice S0 sn sc] 90) := ⟨_, rfl⟩
  have HX0 : Hid (Blk WB w.heap.size 90 #[.slice R0 rn rc]) := by subst hWB; exact heap_two0 _ _ _
  have HX1 : Hid (Blk WB (w.heap.size + 1) 90 #[.slice S0 sn sc]) := by subst hWB; exact heap_two1 _ _ _
  have HBB : Hid (Below w.heap.size w WB) := by subst hWB; exact HB0.out
  have hbk := hkb.lt
  have hqk := hkq.lt
  have HRd : Hid (∀ W', Below WB.heap.size WB W' → (W'.cell? ⟨bk, 0, none⟩ = some (.string b.name) ∧ W'.cell? ⟨bk, 1, none⟩ = some (.string b.glob) ∧ W'.cell? ⟨bk, 2, none⟩ = some (.slice A2 n2 p2) ∧ W'.cell? ⟨bk, 3, none⟩ = some (.slice A3 n3 p3) ∧ W'.cell? ⟨qk, 3, none⟩ = some (.string d.order) ∧ W'.cell? ⟨qk, 4, none⟩ = some (.bool d.desc) ∧ W'.cell? ⟨w.heap.size, 0, none⟩ = some (.slice R0 rn rc) ∧ W'.cell? ⟨w.heap.size + 1, 0, none⟩ = some (.slice S0 sn sc))) := fun W' hW => by
    have e1 := HKB.out.later (HBB.out.later hW) hbk
    have e2 := HKQ.out.later (HBB.out.later hW) hqk
    have e3 := HX0.out.later hW HX0.out.lt
    have e4 := HX1.out.later hW HX1.out.lt
    exact ⟨(e1.cell 0).trans rfl, (e1.cell 1).trans rfl, (e1.cell 2).trans rfl, (e1.cell 3).trans rfl, (e2.cell 3).trans rfl, (e2.cell 4).trans rfl, (e3.cell 0).trans rfl, (e4.cell 0).trans rfl⟩
  clear s2 s3 t1 t2 hkb hkq hbs hxs hys htab hp hxk hyk
  generalize cmpK d.desc kk x y = R at *
  generalize colI (F (.slice R0 rn rc)) (F (.slice S0 sn sc)) = o at *
  clear hFx hFy
  go_enter Tryz.func102, Tryz.ntmps102
  go_wp2_with fail
  rw [← hWB]
  clear hWB HB0
  obtain ⟨z0, z1, z2, z3, z4, z5, z6, z7⟩ := HRd.out _ (Below.refl _ _)
  go_region_held3 (fun W' => W'.cell? ⟨bk, 0, none⟩ = some (.string b.name) ∧ W'.cell? ⟨bk, 1, none⟩ = some (.string b.glob) ∧ W'.cell? ⟨bk, 2, none⟩ = some (.slice A2 n2 p2) ∧ W'.cell? ⟨bk, 3, none⟩ = some (.slice A3 n3 p3) ∧ W'.cell? ⟨qk, 3, none⟩ = some (.string d.order) ∧ W'.cell? ⟨qk, 4, none⟩ = some (.bool d.desc) ∧ W'.cell? ⟨w.heap.size, 0, none⟩ = some (.slice R0 rn rc) ∧ W'.cell? ⟨w.heap.size + 1, 0, none⟩ = some (.slice S0 sn sc))
    (first | exact HRd.out _ hb3 | exact HRd.out _ hb2 | exact HRd.out _ hb1 | exact HRd.out _ (Below.refl WB.heap.size WB).drew)
    (first
      | (go_at_call 103; refine (HKc.out _ (by exact HBB.out.later hb2)).mono ?_; rintro e w3 ⟨rfl, hb3'⟩; have hb3 := hb2.later hb3'; clear hb3')
      | (go_at_call 100; refine (HK2.out _ (by exact HBB.out.later hb1) _ (by first | exact Or.inl rfl | exact Or.inr rfl)).mono ?_; rintro e w2 ⟨rfl, hb2'⟩; have hb2 := hb1.later hb2'; clear hb2')
      | (go_at_call 100; refine (HK2.out _ (by exact HBB.out.drew) _ (by first | exact Or.inl rfl | exact Or.inr rfl)).mono ?_; rintro e w1 ⟨rfl, hb1'⟩; have hb1 := undrew hb1'; clear hb1'))
  all_goals
    as_aux_lemma =>
      obtain ⟨z0, z1, z2, z3, z4, z5, z6, z7⟩ := HRd.out _ hb3
      have HB3 := Lib.hid (HBB.out.later hb3)
      have hqz := (HKQ.out.later HB3.out hqk).lt
      clear hb1 hb2 hb3
      generalize d.desc = ds at *
      cases ds
      · have HE : Hid (R = o) := by unfold Hid; rw [HR.out]; rfl
        go_wp2_with fail
        go_ret
        exact ⟨ret_int HE.out.symm, HB3.out⟩
      · have HE : Hid (R = -o) := by unfold Hid; rw [HR.out]; rfl
        go_wp2_with fail
        go_ret
        exact ⟨ret_int (by rw [HE.out]; try exact (IntWalk.i64_in _ (by omega)).symm), HB3.out⟩
end Go.Proofs.YtalpafaflgddpaaGreatDoor

