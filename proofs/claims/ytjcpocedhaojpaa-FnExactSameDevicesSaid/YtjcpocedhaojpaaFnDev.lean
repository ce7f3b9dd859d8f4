/-
  FnExactSameDevices returns true for all devices, and leaves its arguments as they were. No condition.
-/
import Derived.Test.YtjcpocedhaojpaaDev5
import Derived.Deep.RegionHeld3
namespace Go.Proofs.Ytjcpocedhaojpaa
open Go.RowKit

theorem eqD_self (a : DevD) : eqD a a = true := by simp [eqD, eqScr, eqS, eqFL_self]

set_option maxHeartbeats 2000000 in
theorem fnExactSameDevices_walk (c0 c1 c2 c3 c4 c5 e0 e1 e2 e3 e4 e5 : Value) (a b : DevD) (w : World) (h : DevR w w.heap.size c0 c1 c2 c3 c4 c5 a) (h' : DevR w w.heap.size e0 e1 e2 e3 e4 e5 b) (ha : a.fine) (hb : b.fine) :
    Calls Try.prog 5 #[.agg #[c0, c1, c2, c3, c4, c5], .agg #[e0, e1, e2, e3, e4, e5]] w fun e w' => e = .returned (.bool true) ∧ Below w.heap.size w w' := by
  have Hh := Lib.hid h
  have Hh' := Lib.hid h'
  have Ha := Lib.hid ha
  have Hb := Lib.hid hb
  obtain ⟨q0, q1, q2, ⟨A, n, cap, q3, _⟩, ⟨A', n', cap', q4, _⟩, ⟨A'', n'', cap'', q5, _⟩⟩ := h
  obtain ⟨r0, r1, r2, ⟨D, m, dap, r3, _⟩, ⟨D', m', dap', r4, _⟩, ⟨D'', m'', dap'', r5, _⟩⟩ := h'
  subst q0 q1 q2 q3 q4 q5 r0 r1 r2 r3 r4 r5
  clear ha hb
  go_enter Try.func5, Try.ntmps5
  go_wp2_with fail
  refine (szDevices_any _ _ _ _ _ _ a 1048576 _ (Hh.out.later ((Below.new _ _).later (Below.new _ _))) Ha.out (by omega) (by omega)).mono ?_
  rintro e w1 ⟨rfl, hb1⟩
  have HX1 := Lib.hid hb1
  have HB1 := Lib.hid (((Below.new _ _).later (Below.new _ _)).later hb1)
  clear hb1
  have hx := szD_ge a 1048576
  have hx2 := szD_le a 1048576 (by omega)
  have Hsm := Lib.hid (szD_small a 1048576 (by omega) (by omega))
  generalize szD a 1048576 = x at *
  by_cases hneg : x < 0
  · go_wp2_with fail
    go_ret
    exact ⟨rfl, HB1.out⟩
  · have HSa := Lib.hid (Hsm.out (by omega))
    have p0 := (Blk.later (heap_two0 w _ _) HX1.out (by simp; omega)).cell
    have p1 := (Blk.later (heap_two1 w _ _) HX1.out (by simp)).cell
    go_wp2_with fail
    refine (szDevices_any _ _ _ _ _ _ b x _ (Hh'.out.later HB1.out) Hb.out (by omega) (by omega)).mono ?_
    rintro e w2 ⟨rfl, hb2⟩
    have HX2 := Lib.hid (HX1.out.later hb2)
    have HB2 := Lib.hid (HB1.out.later hb2)
    clear hb2 p0 p1 HX1 HB1
    have hy := szD_ge b x
    have Hsm2 := Lib.hid (szD_small b x (by omega) (by omega))
    generalize szD b x = y at *
    by_cases hneg2 : y < 0
    · go_wp2_with fail
      go_ret
      exact ⟨rfl, HB2.out⟩
    · have HSb := Lib.hid (Hsm2.out (by omega))
      have p0 := (Blk.later (heap_two0 w _ _) HX2.out (by simp; omega)).cell
      have p1 := (Blk.later (heap_two1 w _ _) HX2.out (by simp)).cell
      have a0 := p0 0
      have a1 := p0 1
      have a2 := p0 2
      have a3 := p0 3
      have a4 := p0 4
      have a5 := p0 5
      have b0 := p1 0
      have b1 := p1 1
      have b2 := p1 2
      have b3 := p1 3
      have b4 := p1 4
      have b5 := p1 5
      clear p0 p1
      have HHa := Lib.hid (Hh.out.later HB2.out)
      have HHb := Lib.hid (Hh'.out.later HB2.out)
      go_wp2_with fail
      go_region_held3 (fun w' => w'.cell? ⟨w.heap.size, 0, none⟩ = some (.int .i64 a.use) ∧ w'.cell? ⟨w.heap.size, 1, none⟩ = some (.int .i64 a.row) ∧ w'.cell? ⟨w.heap.size, 2, none⟩ = some (.int .i64 a.col) ∧ w'.cell? ⟨w.heap.size, 3, none⟩ = some (.slice A n cap) ∧ w'.cell? ⟨w.heap.size, 4, none⟩ = some (.slice A' n' cap') ∧ w'.cell? ⟨w.heap.size, 5, none⟩ = some (.slice A'' n'' cap'') ∧ w'.cell? ⟨w.heap.size + 1, 0, none⟩ = some (.int .i64 b.use) ∧ w'.cell? ⟨w.heap.size + 1, 1, none⟩ = some (.int .i64 b.row) ∧ w'.cell? ⟨w.heap.size + 1, 2, none⟩ = some (.int .i64 b.col) ∧ w'.cell? ⟨w.heap.size + 1, 3, none⟩ = some (.slice D m dap) ∧ w'.cell? ⟨w.heap.size + 1, 4, none⟩ = some (.slice D' m' dap') ∧ w'.cell? ⟨w.heap.size + 1, 5, none⟩ = some (.slice D'' m'' dap'')) (first | exact ⟨a0, a1, a2, a3, a4, a5, b0, b1, b2, b3, b4, b5⟩ | exact ⟨cell_later hb3 a0, cell_later hb3 a1, cell_later hb3 a2, cell_later hb3 a3, cell_later hb3 a4, cell_later hb3 a5, cell_later hb3 b0, cell_later hb3 b1, cell_later hb3 b2, cell_later hb3 b3, cell_later hb3 b4, cell_later hb3 b5⟩ | exact ⟨cell_later hb4 a0, cell_later hb4 a1, cell_later hb4 a2, cell_later hb4 a3, cell_later hb4 a4, cell_later hb4 a5, cell_later hb4 b0, cell_later hb4 b1, cell_later hb4 b2, cell_later hb4 b3, cell_later hb4 b4, cell_later hb4 b5⟩ | exact ⟨cell_later hb5 a0, cell_later hb5 a1, cell_later hb5 a2, cell_later hb5 a3, cell_later hb5 a4, cell_later hb5 a5, cell_later hb5 b0, cell_later hb5 b1, cell_later hb5 b2, cell_later hb5 b3, cell_later hb5 b4, cell_later hb5 b5⟩)
        (first
          | (go_at_call 16; ((with_reducible refine (toDevices_any (.int .i64 a.use) (.int .i64 a.row) (.int .i64 a.col) (.slice A n cap) (.slice A' n' cap') (.slice A'' n'' cap'') a _ ?ha HSa.out).mono ?_)); (case ha => exact HHa.out); rintro e w3 ⟨v3, v4, v5, rfl, hd3', hb3'⟩; have hb3 := undrew hb3'; have HD3 := Lib.hid hd3'; clear hb3' hd3')
          | (go_at_call 16; ((with_reducible refine (toDevices_any (.int .i64 b.use) (.int .i64 b.row) (.int .i64 b.col) (.slice D m dap) (.slice D' m' dap') (.slice D'' m'' dap'') b _ ?hb HSb.out).mono ?_)); (case hb => exact HHb.out.later hb3); rintro e w4 ⟨u3, u4, u5, rfl, hd4', hb4'⟩; have hb4 := hb3.later hb4'; have HD4 := Lib.hid hd4'; have HD3' := Lib.hid (HD3.out.later hb4'); clear hb4' hd4')
          | (go_at_call 15; refine (specSameDevices_any _ _ _ _ _ _ _ _ _ _ _ _ a b _ ?hx ?hy HSa.out HSb.out).mono ?_; (case hx => exact HD3'.out); (case hy => exact HD4.out); rintro e w5 ⟨rfl, hb5'⟩; have hb5 := hb4.later hb5'; clear hb5'))
      have HB5 := Lib.hid (HB2.out.later hb5)
      have a0' := cell_later hb5 a0
      have a1' := cell_later hb5 a1
      have a2' := cell_later hb5 a2
      have a3' := cell_later hb5 a3
      have a4' := cell_later hb5 a4
      have a5' := cell_later hb5 a5
      have b0' := cell_later hb5 b0
      have b1' := cell_later hb5 b1
      have b2' := cell_later hb5 b2
      have b3' := cell_later hb5 b3
      have b4' := cell_later hb5 b4
      have b5' := cell_later hb5 b5
      clear a0 a1 a2 a3 a4 a5 b0 b1 b2 b3 b4 b5 hb3 hb4 hb5 HD3 HD3' HD4 HHa HHb HX2
      have HHa := Lib.hid (Hh.out.later HB5.out)
      go_wp2_with fail
      refine (toDevices_any (.int .i64 a.use) (.int .i64 a.row) (.int .i64 a.col) (.slice A n cap) (.slice A' n' cap') (.slice A'' n'' cap'') a _ HHa.out HSa.out).mono ?_
      rintro e w6 ⟨v3', v4', v5', rfl, hd6, hb6⟩
      have HD6 := Lib.hid hd6
      obtain ⟨_, _, _, ⟨X3, j3, l3, e3, _⟩, ⟨X4, j4, l4, e4, _⟩, ⟨X5, j5, l5, e5, _⟩⟩ := hd6
      subst e3 e4 e5
      have HB6 := Lib.hid (HB5.out.later hb6)
      have a0 := cell_later hb6 a0'
      have a1 := cell_later hb6 a1'
      have a2 := cell_later hb6 a2'
      have a3 := cell_later hb6 a3'
      have a4 := cell_later hb6 a4'
      have a5 := cell_later hb6 a5'
      have b0 := cell_later hb6 b0'
      have b1 := cell_later hb6 b1'
      have b2 := cell_later hb6 b2'
      have b3 := cell_later hb6 b3'
      have b4 := cell_later hb6 b4'
      have b5 := cell_later hb6 b5'
      have z6 := hb6.size
      clear a0' a1' a2' a3' a4' a5' b0' b1' b2' b3' b4' b5' hb6
      have HHb := Lib.hid (Hh'.out.later (HB6.out.later (Below.new w6 (.cells #[.int .i64 a.use, .int .i64 a.row, .int .i64 a.col, .slice X3 j3 l3, .slice X4 j4 l4, .slice X5 j5 l5] 40))))
      have zb := World.block_lt_of_cell? _ _ b0
      go_wp2_with fail
      refine (toDevices_any (.int .i64 b.use) (.int .i64 b.row) (.int .i64 b.col) (.slice D m dap) (.slice D' m' dap') (.slice D'' m'' dap'') b _ HHb.out HSb.out).mono ?_
      rintro e w7 ⟨u3', u4', u5', rfl, hd7, hb7⟩
      have HD7 := Lib.hid hd7
      obtain ⟨_, _, _, ⟨Y3, i3, t3, e3, _⟩, ⟨Y4, i4, t4, e4, _⟩, ⟨Y5, i5, t5, e5, _⟩⟩ := hd7
      subst e3 e4 e5
      have HP7 : Hid (Blk w7 w6.heap.size _ _) := Blk.later (heap_last rfl) hb7 (by simp)
      have HD6' := Lib.hid ((HD6.out.later (Below.new _ _)).later hb7)
      have HB7 := Lib.hid ((HB6.out.later (Below.new _ _)).later hb7)
      have a0' := cell_later ((Below.new _ _).later hb7) a0
      have a1' := cell_later ((Below.new _ _).later hb7) a1
      have a2' := cell_later ((Below.new _ _).later hb7) a2
      have a3' := cell_later ((Below.new _ _).later hb7) a3
      have a4' := cell_later ((Below.new _ _).later hb7) a4
      have a5' := cell_later ((Below.new _ _).later hb7) a5
      have b0' := cell_later ((Below.new _ _).later hb7) b0
      have b1' := cell_later ((Below.new _ _).later hb7) b1
      have b2' := cell_later ((Below.new _ _).later hb7) b2
      have b3' := cell_later ((Below.new _ _).later hb7) b3
      have b4' := cell_later ((Below.new _ _).later hb7) b4
      have b5' := cell_later ((Below.new _ _).later hb7) b5
      have p7 := HP7.out.cell
      have zz7 := HP7.out.lt
      clear a0 a1 a2 a3 a4 a5 b0 b1 b2 b3 b4 b5 hb7 zb
      go_wp2_with fail
      refine (implSameDevices_any _ _ _ _ _ _ _ _ _ _ _ _ a b _ (HD6'.out.later (Below.new _ _)) (HD7.out.later (Below.new _ _)) HSa.out HSb.out).mono ?_
      rintro e w8 ⟨rfl, hb8⟩
      have HP8 : Hid (Blk w8 w6.heap.size _ _) := (HP7.out.alloc _).later hb8 (by simp; omega)
      have HQ8 : Hid (Blk w8 w7.heap.size _ _) := Blk.later (heap_last rfl) hb8 (by simp)
      have HDa := Lib.hid ((HD6'.out.later (Below.new _ _)).later hb8)
      have HDb := Lib.hid ((HD7.out.later (Below.new _ _)).later hb8)
      have HB8 := Lib.hid ((HB7.out.later (Below.new _ _)).later hb8)
      have a0 := cell_later ((Below.new _ _).later hb8) a0'
      have a1 := cell_later ((Below.new _ _).later hb8) a1'
      have a2 := cell_later ((Below.new _ _).later hb8) a2'
      have a3 := cell_later ((Below.new _ _).later hb8) a3'
      have a4 := cell_later ((Below.new _ _).later hb8) a4'
      have a5 := cell_later ((Below.new _ _).later hb8) a5'
      have b0 := cell_later ((Below.new _ _).later hb8) b0'
      have b1 := cell_later ((Below.new _ _).later hb8) b1'
      have b2 := cell_later ((Below.new _ _).later hb8) b2'
      have b3 := cell_later ((Below.new _ _).later hb8) b3'
      have b4 := cell_later ((Below.new _ _).later hb8) b4'
      have b5 := cell_later ((Below.new _ _).later hb8) b5'
      clear a0' a1' a2' a3' a4' a5' b0' b1' b2' b3' b4' b5' hb8 p7 HP7 HD6 HD6' HD7
      have x0 := HP8.out.cell 0
      have x1 := HP8.out.cell 1
      have x2 := HP8.out.cell 2
      have x3 := HP8.out.cell 3
      have x4 := HP8.out.cell 4
      have x5 := HP8.out.cell 5
      have y0 := HQ8.out.cell 0
      have y1 := HQ8.out.cell 1
      have y2 := HQ8.out.cell 2
      have y3 := HQ8.out.cell 3
      have y4 := HQ8.out.cell 4
      have y5 := HQ8.out.cell 5
      have HHa8 := Lib.hid (Hh.out.later HB8.out)
      generalize eqD a b = res at *
      go_wp2_with fail
      go_region_held3 (fun w' => w'.cell? ⟨w6.heap.size, 0, none⟩ = some (.int .i64 a.use) ∧ w'.cell? ⟨w6.heap.size, 1, none⟩ = some (.int .i64 a.row) ∧ w'.cell? ⟨w6.heap.size, 2, none⟩ = some (.int .i64 a.col) ∧ w'.cell? ⟨w6.heap.size, 3, none⟩ = some (.slice X3 j3 l3) ∧ w'.cell? ⟨w6.heap.size, 4, none⟩ = some (.slice X4 j4 l4) ∧ w'.cell? ⟨w6.heap.size, 5, none⟩ = some (.slice X5 j5 l5) ∧ w'.cell? ⟨w.heap.size, 0, none⟩ = some (.int .i64 a.use) ∧ w'.cell? ⟨w.heap.size, 1, none⟩ = some (.int .i64 a.row) ∧ w'.cell? ⟨w.heap.size, 2, none⟩ = some (.int .i64 a.col) ∧ w'.cell? ⟨w.heap.size, 3, none⟩ = some (.slice A n cap) ∧ w'.cell? ⟨w.heap.size, 4, none⟩ = some (.slice A' n' cap') ∧ w'.cell? ⟨w.heap.size, 5, none⟩ = some (.slice A'' n'' cap'')) (first | exact ⟨x0, x1, x2, x3, x4, x5, a0, a1, a2, a3, a4, a5⟩ | exact ⟨cell_later hb9 x0, cell_later hb9 x1, cell_later hb9 x2, cell_later hb9 x3, cell_later hb9 x4, cell_later hb9 x5, cell_later hb9 a0, cell_later hb9 a1, cell_later hb9 a2, cell_later hb9 a3, cell_later hb9 a4, cell_later hb9 a5⟩ | exact ⟨cell_later hb10 x0, cell_later hb10 x1, cell_later hb10 x2, cell_later hb10 x3, cell_later hb10 x4, cell_later hb10 x5, cell_later hb10 a0, cell_later hb10 a1, cell_later hb10 a2, cell_later hb10 a3, cell_later hb10 a4, cell_later hb10 a5⟩)
        (first
          | (go_at_call 16; refine (toDevices_any (.int .i64 a.use) (.int .i64 a.row) (.int .i64 a.col) (.slice A n cap) (.slice A' n' cap') (.slice A'' n'' cap'') a _ ?ha HSa.out).mono ?_; (case ha => exact HHa8.out); rintro e w9 ⟨r3, r4, r5, rfl, hd9', hb9'⟩; have hb9 := undrew hb9'; have HD9 := Lib.hid hd9'; clear hb9' hd9')
          | (go_at_call 18; refine (eqDevices_any _ _ _ _ _ _ _ _ _ _ _ _ a a _ ?hx ?hy HSa.out HSa.out).mono ?_; (case hx => exact HDa.out.later hb9); (case hy => exact HD9.out); rw [eqD_self]; rintro e w10 ⟨rfl, hb10'⟩; have hb10 := hb9.later hb10'; clear hb10'))
      have HB10 := Lib.hid (HB8.out.later hb10)
      have HDb10 := Lib.hid (HDb.out.later hb10)
      have b0' := cell_later hb10 b0
      have b1' := cell_later hb10 b1
      have b2' := cell_later hb10 b2
      have b3' := cell_later hb10 b3
      have b4' := cell_later hb10 b4
      have b5' := cell_later hb10 b5
      have y0' := cell_later hb10 y0
      have y1' := cell_later hb10 y1
      have y2' := cell_later hb10 y2
      have y3' := cell_later hb10 y3
      have y4' := cell_later hb10 y4
      have y5' := cell_later hb10 y5
      clear a0 a1 a2 a3 a4 a5 b0 b1 b2 b3 b4 b5 x0 x1 x2 x3 x4 x5 y0 y1 y2 y3 y4 y5 hb9 hb10 HD9 HDa HDb HHa8
      have HHb8 := Lib.hid (Hh'.out.later HB10.out)
      go_wp2_with fail
      go_region_held3 (fun w' => w'.cell? ⟨w7.heap.size, 0, none⟩ = some (.int .i64 b.use) ∧ w'.cell? ⟨w7.heap.size, 1, none⟩ = some (.int .i64 b.row) ∧ w'.cell? ⟨w7.heap.size, 2, none⟩ = some (.int .i64 b.col) ∧ w'.cell? ⟨w7.heap.size, 3, none⟩ = some (.slice Y3 i3 t3) ∧ w'.cell? ⟨w7.heap.size, 4, none⟩ = some (.slice Y4 i4 t4) ∧ w'.cell? ⟨w7.heap.size, 5, none⟩ = some (.slice Y5 i5 t5) ∧ w'.cell? ⟨w.heap.size + 1, 0, none⟩ = some (.int .i64 b.use) ∧ w'.cell? ⟨w.heap.size + 1, 1, none⟩ = some (.int .i64 b.row) ∧ w'.cell? ⟨w.heap.size + 1, 2, none⟩ = some (.int .i64 b.col) ∧ w'.cell? ⟨w.heap.size + 1, 3, none⟩ = some (.slice D m dap) ∧ w'.cell? ⟨w.heap.size + 1, 4, none⟩ = some (.slice D' m' dap') ∧ w'.cell? ⟨w.heap.size + 1, 5, none⟩ = some (.slice D'' m'' dap'')) (first | exact ⟨y0', y1', y2', y3', y4', y5', b0', b1', b2', b3', b4', b5'⟩ | exact ⟨cell_later hb11 y0', cell_later hb11 y1', cell_later hb11 y2', cell_later hb11 y3', cell_later hb11 y4', cell_later hb11 y5', cell_later hb11 b0', cell_later hb11 b1', cell_later hb11 b2', cell_later hb11 b3', cell_later hb11 b4', cell_later hb11 b5'⟩ | exact ⟨cell_later hb12 y0', cell_later hb12 y1', cell_later hb12 y2', cell_later hb12 y3', cell_later hb12 y4', cell_later hb12 y5', cell_later hb12 b0', cell_later hb12 b1', cell_later hb12 b2', cell_later hb12 b3', cell_later hb12 b4', cell_later hb12 b5'⟩)
        (first
          | (go_at_call 16; refine (toDevices_any (.int .i64 b.use) (.int .i64 b.row) (.int .i64 b.col) (.slice D m dap) (.slice D' m' dap') (.slice D'' m'' dap'') b _ ?ha HSb.out).mono ?_; (case ha => exact HHb8.out); rintro e w11 ⟨r3, r4, r5, rfl, hd11', hb11'⟩; have hb11 := undrew hb11'; have HD11 := Lib.hid hd11'; clear hb11' hd11')
          | (go_at_call 18; refine (eqDevices_any _ _ _ _ _ _ _ _ _ _ _ _ b b _ ?hx ?hy HSb.out HSb.out).mono ?_; (case hx => exact HDb10.out.later hb11); (case hy => exact HD11.out); rw [eqD_self]; rintro e w12 ⟨rfl, hb12'⟩; have hb12 := hb11.later hb12'; clear hb12'))
      have HB12 := Lib.hid (HB10.out.later hb12)
      clear hb11 hb12 HD11 b0' b1' b2' b3' b4' b5' y0' y1' y2' y3' y4' y5'
      go_wp2_with fail
      go_ret
      exact ⟨rfl, HB12.out⟩
end Go.Proofs.Ytjcpocedhaojpaa
