/-
  What toDevices, eqDevices and slices.EqualFunc at files compute.
-/
import Derived.Test.YtjcpocedhaojpaaDev2
namespace Go.Proofs.Ytjcpocedhaojpaa
open Go.RowKit

theorem Laid.far {w : World} {g : Nat} {cs : Array Value} {fs : List FileD} {k : Nat} (h : Laid w g cs fs k) {p : Addr} (hp : p.block < g) (u : Value) : Laid (w.setCell p u) g cs fs k := fun j hj => by
  obtain ⟨gj, hgj, e0, e1, e2, e3, hbj⟩ := h j hj
  exact ⟨gj, hgj, e0, e1, e2, e3, hbj.far (by omega) u⟩
theorem Laid.alloc {w : World} {g : Nat} {cs : Array Value} {fs : List FileD} {k : Nat} (h : Laid w g cs fs k) (o : Obj) : Laid (w.alloc o) g cs fs k := fun j hj => by
  obtain ⟨gj, hgj, e0, e1, e2, e3, hbj⟩ := h j hj
  exact ⟨gj, hgj, e0, e1, e2, e3, hbj.alloc o⟩
set_option maxHeartbeats 1000000 in
theorem toDevices_any (c0 c1 c2 c3 c4 c5 : Value) (d : DevD) (w : World) (h : DevR w w.heap.size c0 c1 c2 c3 c4 c5 d) (hf : d.small) :
    Calls Try.prog 16 #[.agg #[c0, c1, c2, c3, c4, c5]] w fun e w' => ∃ v3 v4 v5, e = .returned (.agg #[.int .i64 d.use, .int .i64 d.row, .int .i64 d.col, v3, v4, v5]) ∧
      DevR w' w'.heap.size (.int .i64 d.use) (.int .i64 d.row) (.int .i64 d.col) v3 v4 v5 d ∧ Below w.heap.size w w' := by
  obtain ⟨rfl, rfl, rfl, ⟨A, n, cap, rfl, h3⟩, ⟨A', n', cap', rfl, h4⟩, ⟨A'', n'', cap'', rfl, h5⟩⟩ := h
  obtain ⟨f1, f2, f3, f4⟩ := hf
  obtain rfl : d.rows.length = n := h3.1
  obtain rfl : d.files.length = n' := h4.1
  obtain rfl : d.keys.length = n'' := h5.1
  have HK1 := Lib.hid (fun W (hW : Below w.heap.size w W) => toScreen_any d.row d.col A _ cap d.rows W (h3.later hW) f1)
  have HK2 := Lib.hid (fun W (hW : Below w.heap.size w W) => toFileS_any A' _ cap' d.files W (h4.later hW) f2 f3)
  have HK3 := Lib.hid (fun W (hW : Below w.heap.size w W) => toStringS_any A'' _ cap'' d.keys W (h5.later hW) f4)
  clear h3 h4 h5 f1 f2 f3 f4
  generalize hus : d.use = us at *
  have HU := Lib.hid hus
  clear hus
  go_enter Try.func16, Try.ntmps16
  go_wp2_with fail
  refine (HK1.out _ (((Below.new _ _).later (Below.new _ _)).later (Below.new _ _))).mono ?_
  rintro e w1 ⟨g1, rfl, hbk1, hge1, hb1⟩
  have B0 : Blk w1 w.heap.size _ _ := Blk.later (heap_new0 w _ _ _) hb1 (by simp; omega)
  have B1 : Blk w1 (w.heap.size + 1) _ _ := Blk.later (heap_new1 w _ _ _) hb1 (by simp)
  have B2 : Blk w1 (w.heap.size + 1 + 1) _ _ := Blk.later (heap_new2 w _ _ _) hb1 (by simp)
  have G1 : Blk w1 g1 _ _ := hbk1
  have hg1 : w.heap.size + 1 + 1 < g1 := by simp at hge1; omega
  have HB1 := Lib.hid ((((Below.new w _).later (Below.new _ _)).later (Below.new _ _)).later hb1)
  have p0 := B0.cell
  have q2 := B2.cell
  have f2 := B2.frozen
  have HB0 := Lib.hid B0
  have HBB1 := Lib.hid B1
  have HB2 := Lib.hid B2
  have HG1 := Lib.hid G1
  clear hb1 hbk1 hge1 B0 B1 B2 G1
  go_wp2_with fail
  refine (HK2.out _ (((HB1.out.setCell (p := ⟨w.heap.size + 1 + 1, 1, none⟩) (by simp; omega) _).setCell (p := ⟨w.heap.size + 1 + 1, 2, none⟩) (by simp; omega) _).setCell (p := ⟨w.heap.size + 1 + 1, 3, none⟩) (by simp; omega) _)).mono ?_
  rintro e w2 ⟨cs2, rfl, hbk2, hl2, hb2⟩
  have z2 : w1.heap.size ≤ w2.heap.size := by have := hb2.size; simpa using this
  have z1 : g1 < w1.heap.size := HG1.out.lt
  simp only [World.size_setCell] at hbk2 hl2 hb2
  have C0 := (((HB0.out.far (p := ⟨w.heap.size + 1 + 1, 1, none⟩) (by simp; omega) (.int .i64 d.row)).far (p := ⟨w.heap.size + 1 + 1, 2, none⟩) (by simp; omega) (.int .i64 d.col)).far (p := ⟨w.heap.size + 1 + 1, 3, none⟩) (by simp; omega) (.slice (some ⟨g1, 0, none⟩) d.rows.length d.rows.length)).later hb2 (by omega)
  have C1 := (((HBB1.out.far (p := ⟨w.heap.size + 1 + 1, 1, none⟩) (by simp) (.int .i64 d.row)).far (p := ⟨w.heap.size + 1 + 1, 2, none⟩) (by simp) (.int .i64 d.col)).far (p := ⟨w.heap.size + 1 + 1, 3, none⟩) (by simp) (.slice (some ⟨g1, 0, none⟩) d.rows.length d.rows.length)).later hb2 (by omega)
  have C2 := (((HB2.out.set_ 1 (.int .i64 d.row)).set_ 2 (.int .i64 d.col)).set_ 3 (.slice (some ⟨g1, 0, none⟩) d.rows.length d.rows.length)).later hb2 (by omega)
  have CG := (((HG1.out.far (p := ⟨w.heap.size + 1 + 1, 1, none⟩) (by simp; omega) (.int .i64 d.row)).far (p := ⟨w.heap.size + 1 + 1, 2, none⟩) (by simp; omega) (.int .i64 d.col)).far (p := ⟨w.heap.size + 1 + 1, 3, none⟩) (by simp; omega) (.slice (some ⟨g1, 0, none⟩) d.rows.length d.rows.length)).later hb2 (by omega)
  have HB2' := Lib.hid ((((HB1.out.setCell (p := ⟨w.heap.size + 1 + 1, 1, none⟩) (by simp; omega) _).setCell (p := ⟨w.heap.size + 1 + 1, 2, none⟩) (by simp; omega) _).setCell (p := ⟨w.heap.size + 1 + 1, 3, none⟩) (by simp; omega) _).trans (hb2.mono (by omega)))
  clear p0 q2 f2 hb2 HB0 HBB1 HB2 HG1 HB1
  have p0 := C0.cell
  have q2 := C2.cell
  have f2 := C2.frozen
  have HC0 := Lib.hid C0
  have HC1 := Lib.hid C1
  have HC2 := Lib.hid C2
  have HCG := Lib.hid CG
  have HL2 := Lib.hid hl2
  have HK2b := Lib.hid hbk2
  clear C0 C1 C2 CG hl2 hbk2
  go_wp2_with fail
  refine (HK3.out _ (HB2'.out.setCell (p := ⟨w.heap.size + 1 + 1, 4, none⟩) (by simp; omega) _)).mono ?_
  rintro e w3 ⟨rfl, rfl⟩
  have q1 := HC1.out.cell
  have f1 := HC1.out.frozen
  have zz := HC2.out.lt
  have zz1 := HC1.out.lt
  have zz0 := HC0.out.lt
  simp only [World.size_setCell]
  go_wp2_with fail
  have HDV : Hid (∀ W : World, Blk W g1 9 (strArr d.rows) → Blk W w1.heap.size 57 cs2 → Laid W w1.heap.size cs2 d.files d.files.length → Blk W w2.heap.size 9 (strArr d.keys) → DevR W W.heap.size (.int .i64 us) (.int .i64 d.row) (.int .i64 d.col) (.slice (some ⟨g1, 0, none⟩) d.rows.length d.rows.length) (.slice (some ⟨w1.heap.size, 0, none⟩) d.files.length d.files.length) (.slice (some ⟨w2.heap.size, 0, none⟩) d.keys.length d.keys.length) d) := fun W k1 k2 k3 k4 => ⟨by rw [HU.out], rfl, rfl, ⟨_, _, _, rfl, k1.strs⟩, ⟨_, _, _, rfl, k3.files k2⟩, ⟨_, _, _, rfl, k4.strs⟩⟩
  have z0 : w.heap.size + 1 + 1 < w1.heap.size := by omega
  refine bodyPost_ret (v := .agg #[.int .i64 us, .int .i64 d.row, .int .i64 d.col, .slice (some ⟨g1, 0, none⟩) d.rows.length d.rows.length, .slice (some ⟨w1.heap.size, 0, none⟩) d.files.length d.files.length, .slice (some ⟨w2.heap.size, 0, none⟩) d.keys.length d.keys.length]) (by simp [results, Try.results16, go_sem, q1, zz1]) rfl ⟨_, _, _, rfl, HDV.out _ ?_ ?_ ?_ ?_, ?_⟩
  · refine Blk.alloc ?_ _
    iterate 8 (refine Blk.far ?_ (by simp <;> omega) _)
    exact HCG.out
  · refine Blk.alloc ?_ _
    iterate 8 (refine Blk.far ?_ (by simp <;> omega) _)
    exact HK2b.out
  · refine Laid.alloc ?_ _
    iterate 8 (refine Laid.far ?_ (by simp <;> omega) _)
    exact HL2.out
  · exact heap_last (by simp)
  · refine Below.alloc ?_ (by simp; omega) _
    iterate 8 (refine Below.setCell ?_ (by simp <;> omega) _)
    exact HB2'.out

def eqD (a b : DevD) : Bool := decide (a.use = b.use) && eqScr a.row a.col a.rows b.row b.col b.rows && eqFL a.files b.files && eqS a.keys b.keys

set_option maxHeartbeats 1000000 in
theorem eqDevices_any (c0 c1 c2 c3 c4 c5 e0 e1 e2 e3 e4 e5 : Value) (a b : DevD) (w : World) (h : DevR w w.heap.size c0 c1 c2 c3 c4 c5 a) (h' : DevR w w.heap.size e0 e1 e2 e3 e4 e5 b) (ha : a.small) (hb : b.small) :
    Calls Try.prog 18 #[.agg #[c0, c1, c2, c3, c4, c5], .agg #[e0, e1, e2, e3, e4, e5]] w fun e w' => e = .returned (.bool (eqD a b)) ∧ Below w.heap.size w w' := by
  obtain ⟨rfl, rfl, rfl, ⟨A, n, cap, rfl, h3⟩, ⟨A', n', cap', rfl, h4⟩, ⟨A'', n'', cap'', rfl, h5⟩⟩ := h
  obtain ⟨rfl, rfl, rfl, ⟨D, m, dap, rfl, g3⟩, ⟨D', m', dap', rfl, g4⟩, ⟨D'', m'', dap'', rfl, g5⟩⟩ := h'
  obtain ⟨f1, f2, f3, f4⟩ := ha
  obtain ⟨k1, k2, k3, k4⟩ := hb
  rw [h3.1] at f1
  rw [h4.1] at f3
  rw [h5.1] at f4
  rw [g3.1] at k1
  rw [g4.1] at k3
  rw [g5.1] at k4
  have HK1 := Lib.hid (fun W (hW : Below w.heap.size w W) => eqScreen_any a.row a.col b.row b.col A D n cap m dap a.rows b.rows W (h3.later hW) (g3.later hW) f1 k1)
  have HK2 := Lib.hid (fun W (hW : Below w.heap.size w W) => eqFileS_any A' D' n' cap' m' dap' a.files b.files W (h4.later hW) (g4.later hW) f2 k2 f3 k3)
  have HK3 := Lib.hid (fun W (hW : Below w.heap.size w W) => eqStringS_any A'' D'' n'' cap'' m'' dap'' a.keys b.keys W (h5.later hW) (g5.later hW) f4 k4)
  have hR : eqD a b = eqD a b := rfl
  conv at hR => rhs; unfold eqD
  clear h3 h4 h5 g3 g4 g5 f1 f2 f3 f4 k1 k2 k3 k4
  generalize eqD a b = R at *
  generalize eqScr a.row a.col a.rows b.row b.col b.rows = x at *
  generalize eqFL a.files b.files = y at *
  generalize eqS a.keys b.keys = z at *
  generalize a.use = us at *
  generalize b.use = us' at *
  generalize a.row = ar at *
  generalize a.col = ac at *
  generalize b.row = br at *
  generalize b.col = bc at *
  by_cases hu : us = us'
  · subst hu
    have HR : Hid (R = (x && y && z)) := by unfold Hid; rw [hR]; simp
    clear hR
    go_enter Try.func18, Try.ntmps18
    go_wp2_with fail
    refine (HK1.out _ ((Below.new _ _).later (Below.new _ _))).mono ?_
    rintro e w1 ⟨rfl, hb1⟩
    have HX1 := Lib.hid hb1
    have HB1 := Lib.hid (((Below.new _ _).later (Below.new _ _)).later hb1)
    clear hb1
    cases x
    · have HE : Hid (R = false) := by unfold Hid; rw [HR.out]; rfl
      go_wp2_with fail
      go_ret
      exact ⟨ret_bool HE.out.symm, HB1.out⟩
    · have p0 := (Blk.later (heap_two0 w _ _) HX1.out (by simp; omega)).cell
      have p1 := (Blk.later (heap_two1 w _ _) HX1.out (by simp)).cell
      go_wp2_with fail
      refine (HK2.out _ HB1.out).mono ?_
      rintro e w2 ⟨rfl, hb2⟩
      have HX2 := Lib.hid (HX1.out.later hb2)
      have HB2 := Lib.hid (HB1.out.later hb2)
      clear hb2 p0 p1
      cases y
      · have HE : Hid (R = false) := by unfold Hid; rw [HR.out]; rfl
        go_wp2_with fail
        go_ret
        exact ⟨ret_bool HE.out.symm, HB2.out⟩
      · have p0 := (Blk.later (heap_two0 w _ _) HX2.out (by simp; omega)).cell
        have p1 := (Blk.later (heap_two1 w _ _) HX2.out (by simp)).cell
        go_wp2_with fail
        refine (HK3.out _ HB2.out).mono ?_
        rintro e w3 ⟨rfl, q, rfl⟩
        have HB3 := Lib.hid (below_drewN HB2.out q)
        cases z
        all_goals
          have HE := Lib.hid HR.out
          go_wp2_with fail
          go_ret
          exact ⟨ret_bool HE.out.symm, HB3.out⟩
  · have HE : Hid (R = false) := by unfold Hid; rw [hR]; simp [hu]
    have hb : (us != us') = true := by rw [bne_iff_ne]; exact hu
    clear hR hu
    go_enter Try.func18, Try.ntmps18
    go_wp2_with fail
    go_ret
    exact ⟨ret_bool HE.out.symm, (Below.new _ _).later (Below.new _ _)⟩
end Go.Proofs.Ytjcpocedhaojpaa
