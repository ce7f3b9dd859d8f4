/-
  Draws: l00From, DrawInsertRow. (Printed by gen_dw5.py out of dw7.src.)
-/
import Derived.Test.YtfpcjhajjejpdaaGreatDoorZ46
namespace Go.Proofs.YtfpcjhajjejpdaaGreatDoor
open Go.RowKit
set_option linter.unusedVariables false

theorem l00From_any (A : Option Addr) (n c : Nat) (w : World) (h : BytesR w w.heap.size A n) (hn : n ≤ 1048576) :
    Calls Tryz.prog 37 #[.slice A n c] w fun e w' => e = .returned (.pointer (some ⟨w.heap.size, 0, none⟩)) ∧ SrcR w' w.heap.size 0 ∧ Below w.heap.size w w' := by
  have H := Lib.hid h
  clear h
  go_enter Tryz.func37, Tryz.ntmps37
  go_wp2_with fail
  go_ret
  exact ⟨rfl, ⟨A, n, c, 0, 0, heap_last rfl, H.out.later (fun i hi => Below.heap_alloc _ _ _ hi), Nat.le_refl _, hn, by omega⟩, Below.new _ _⟩
theorem Drawn.below {p K B : Nat} {a b w : World} (h0 : Below B w a) (h : Drawn p K a b) (hp : B ≤ p) (hB : B ≤ w.heap.size) : Below B w b := Own.Chg.below h0 h.chg (fun g e => by rw [e]; exact hp) hB
theorem BytesR.later' {w w' : World} {A : Option Addr} {n : Nat} (h : BytesR w w.heap.size A n) (hb : Below w.heap.size w w') : BytesR w' w'.heap.size A n := fun hn => by
  obtain ⟨b, o, e, hb1, hc⟩ := h hn
  refine ⟨b, o, e, Nat.lt_of_lt_of_le hb1 hb.size, fun j hj => ?_⟩
  obtain ⟨x, h1, h2⟩ := hc j hj
  exact ⟨x, cell_later hb h1, h2⟩
section
variable {P : Nat → Prop} {X Y : World} {bs : Nat} (k : Own.Chg P X Y) (hP : ∀ g, P g → g < bs)
include k hP
theorem sub_chg {v : Value} {ss : List ByteArray} (h : Own.SubO X bs v ss) : Own.SubO Y bs v ss := Own.own_chg h k (Own.inP_of h fun g h1 _ hp => by have := hP g hp; omega)
theorem nodesO_chg {v : Value} {fs : List NodeD} (h : NodesO X bs v fs) : NodesO Y bs v fs := by
  obtain ⟨vs, h⟩ := h
  obtain ⟨h1, h2⟩ := Own.OwnL.inP h (P := fun g => ¬ P g) (fun g h1 _ hp => by have := hP g hp; omega)
  exact ⟨vs, Own.OwnL.chg h k h1 h2⟩
theorem tabO_chg {c0 c1 c2 c3 : Value} {d : TableD} (h : TabO X bs c0 c1 c2 c3 d) : TabO Y bs c0 c1 c2 c3 d := ⟨h.nm, h.gl, sub_chg k hP h.cols, sub_chg k hP h.idx, h.ap⟩
end
/-- A drawn tree, a table, a row. -/
def DInsPost (w : World) (e : Ending) (w' : World) : Prop := ∃ v fs c0 c1 c2 c3 d rv rs, e = .returned (.tuple #[.agg #[v], .agg #[c0, c1, c2, c3], .agg #[rv]]) ∧ (NodesO w' w.heap.size v fs ∧ TabO w' w.heap.size c0 c1 c2 c3 d ∧ Own.SubO w' w.heap.size rv rs ∧ Below w.heap.size w w') ∧ treeB fs = true ∧ tinyT 5 d ∧ 0 < rs.length ∧ rs.length ≤ 7 ∧ ∀ s ∈ rs, s.size ≤ 16

set_option maxRecDepth 100000 in
set_option maxHeartbeats 40000000 in
theorem DrawInsertRow_any (A : Option Addr) (n c : Nat) (w : World) (h : BytesR w w.heap.size A n) (hn : n ≤ 1048576) :
    Calls Tryz.prog 23 #[.slice A n c] w (DInsPost w) := by
  obtain ⟨WB, hWB⟩ : ∃ WB, WB = ((w.alloc (.cells #[.slice none 0 0] 26)).alloc (.cells #[.string ⟨#[]⟩, .string ⟨#[]⟩, .slice none 0 0, .slice none 0 0] 29)).alloc (.cells #[.slice none 0 0] 40) := ⟨_, rfl⟩
  have HBB : Hid (Below w.heap.size w WB) := by subst hWB; exact below_new3 w _ _ _
  have HR2 : Hid (Blk WB w.heap.size 26 #[.slice none 0 0]) := by subst hWB; exact heap_new0 _ _ _ _
  have HR3 : Hid (Blk WB (w.heap.size + 1) 29 #[.string ⟨#[]⟩, .string ⟨#[]⟩, .slice none 0 0, .slice none 0 0]) := by subst hWB; exact heap_new1 _ _ _ _
  have HR4 : Hid (Blk WB (w.heap.size + 1 + 1) 40 #[.slice none 0 0]) := by subst hWB; exact heap_new2 _ _ _ _
  have HK1 := Lib.hid (l00From_any A n c WB (BytesR.later' h HBB.out) hn)
  have hp3 : WB.heap.size = w.heap.size + 1 + 1 + 1 := by subst hWB; simp
  clear h hn
  go_enter Tryz.func23, Tryz.ntmps23
  go_wp2_with fail
  rw [← hWB]
  clear hWB
  refine HK1.out.mono ?_
  rintro e w1 ⟨rfl, hs1, hb1⟩
  rw [hp3] at hs1 hb1 ⊢
  have HB1 := Lib.hid (HBB.out.trans (hb1.mono (by omega)))
  have HA2 := Lib.hid (Blk.later HR2.out (hb1.mono (Nat.le_of_eq hp3)) HR2.out.lt)
  have HA3 := Lib.hid (Blk.later HR3.out (hb1.mono (Nat.le_of_eq hp3)) HR3.out.lt)
  have HA4 := Lib.hid (Blk.later HR4.out (hb1.mono (Nat.le_of_eq hp3)) HR4.out.lt)
  have hw1 : w.heap.size + 1 + 1 + 1 < w1.heap.size := hs1.lt
  generalize hp : w.heap.size + 1 + 1 + 1 = p at *
  have HS1 := Lib.hid hs1
  have HK2 := Lib.hid (l29AnyTable_any p 0 w1 hs1 (by omega))
  clear hs1 hb1 HK1 HR2 HR3 HR4 HBB hp3
  go_wp2_with fail
  refine HK2.out.mono ?_
  rintro e w2 ⟨c0, c1, c2, c3, d, rfl, hT, htn, hd⟩
  obtain ⟨A2, p2, e2, _, _⟩ := Own.own_slice hT.cols
  obtain ⟨A3, p3, e3, _, _⟩ := Own.own_slice hT.idx
  have e0 := hT.nm
  have e1 := hT.gl
  subst e0 e1 e2 e3
  have HTN := Lib.hid htn
  have HT2 := Lib.hid hT
  have HD2 := Lib.hid hd
  clear hT htn hd HK2
  have hw2 := HD2.out.chg.size
  obtain ⟨WX, hWX⟩ : ∃ WX, WX = w2.alloc (.cells #[.string d.name, .string d.glob, .slice A2 d.cols.length p2, .slice A3 d.idx.length p3] 29) := ⟨_, rfl⟩
  have HX : Hid (Blk WX w2.heap.size 29 #[.string d.name, .string d.glob, .slice A2 d.cols.length p2, .slice A3 d.idx.length p3]) := by subst hWX; exact heap_alloc_new _ _
  have HDX : Hid (Drawn p (0 + 6) w1 WX) := by subst hWX; exact HD2.out.later (Below.new _ _)
  have HTX : Hid (TabO WX w1.heap.size (.string d.name) (.string d.glob) (.slice A2 d.cols.length p2) (.slice A3 d.idx.length p3) d) := by subst hWX; exact HT2.out.later (Below.new _ _)
  have hwx := HDX.out.chg.size
  have HKB := Lib.hid (l29Bent_any p (0 + 6) (.string d.name) (.string d.glob) (.slice A2 d.cols.length p2) (.slice A3 d.idx.length p3) d WX.drew (dr_drew HDX.out).src (HTX.out.later (Below.refl _ _).drew).reads (tinyT_small HTN.out (by decide)) (by have := HTN.out.2.2.1.1; omega) HTN.out.2.1 (by omega))
  have x0 := HX.out.cell 0
  have x1 := HX.out.cell 1
  have x2 := HX.out.cell 2
  have x3 := HX.out.cell 3
  simp at x0 x1 x2 x3
  clear HT2 HD2
  go_wp2_with fail
  rw [← hWX]
  clear hWX
  go_region_held3 (fun w' => w'.cell? ⟨w2.heap.size, 0, none⟩ = some (.string d.name) ∧ w'.cell? ⟨w2.heap.size, 1, none⟩ = some (.string d.glob) ∧ w'.cell? ⟨w2.heap.size, 2, none⟩ = some (.slice A2 d.cols.length p2) ∧ w'.cell? ⟨w2.heap.size, 3, none⟩ = some (.slice A3 d.idx.length p3))
    (first | with_reducible exact ⟨x0, x1, x2, x3⟩ | with_reducible exact ⟨y0, y1, y2, y3⟩ | with_reducible exact ⟨z0, z1, z2, z3⟩ | go_keep)
    (first
      | (go_at_call 39
         refine HKB.out.mono ?_
         rintro e w3 ⟨v3, fs, rfl, hn3, ht3, hd3'⟩
         have hd3 := hd3'.pre (Below.refl _ WX).drew
         obtain ⟨A4, cap4, rfl, _, _⟩ := hn3.reads
         have HN3 : Hid (NodesO w3 WX.heap.size (.slice A4 fs.length cap4) fs) := hn3
         have HTR := Lib.hid ht3
         have HD3 := Lib.hid (HDX.out.trans hd3)
         have HX3 := Lib.hid (Blk.drawn HX.out hd3 (by omega))
         have HT3 := Lib.hid (HTX.out.drawn HDX.out.src hd3)
         have hw3 := hd3.chg.size
         have y0 := HX3.out.cell 0
         have y1 := HX3.out.cell 1
         have y2 := HX3.out.cell 2
         have y3 := HX3.out.cell 3
         simp at y0 y1 y2 y3
         clear hd3 hd3' hn3 ht3)
      | (go_at_call 72
         refine (l29AnyRow_any p (0 + 6 + 220) (.string d.name) (.string d.glob) (.slice A2 d.cols.length p2) (.slice A3 d.idx.length p3) d w3 HD3.out.src HT3.out.reads (by have := HTN.out.2.2.1.1; omega) (by omega)).mono ?_
         rintro e w4 ⟨rv, rs, rfl, hsub, hpos, hlen, hall, hd4⟩
         obtain ⟨A5, cap5, rfl, _, _⟩ := Own.own_slice hsub
         have HD4 := Lib.hid (HD3.out.trans hd4)
         have HX4 := Lib.hid (Blk.drawn HX3.out hd4 (by omega))
         have HT4 := Lib.hid (HT3.out.drawn HD3.out.src hd4)
         have HN4 := Lib.hid (HN3.out.drawn HD3.out.src hd4)
         have HU4 := Lib.hid hsub
         have HRW := Lib.hid (And.intro hpos (And.intro hlen hall))
         have HE2 := Lib.hid (Blk.drawn HA2.out HD4.out (by omega))
         have HE3 := Lib.hid (Blk.drawn HA3.out HD4.out (by omega))
         have HE4 := Lib.hid (Blk.drawn HA4.out HD4.out (by omega))
         have z0 := HX4.out.cell 0
         have z1 := HX4.out.cell 1
         have z2 := HX4.out.cell 2
         have z3 := HX4.out.cell 3
         have zz := HX4.out.lt
         have r2 := HE2.out.cell 0
         have f2 := HE2.out.frozen 0
         have l2 := HE2.out.lt
         have r30 := HE3.out.cell 0
         have r31 := HE3.out.cell 1
         have r32 := HE3.out.cell 2
         have r33 := HE3.out.cell 3
         have f30 := HE3.out.frozen 0
         have f31 := HE3.out.frozen 1
         have f32 := HE3.out.frozen 2
         have f33 := HE3.out.frozen 3
         have l3 := HE3.out.lt
         have r4 := HE4.out.cell 0
         have f4 := HE4.out.frozen 0
         have l4 := HE4.out.lt
         have n2 : w.heap.size ≠ w2.heap.size := by omega
         have n3 : w.heap.size + 1 ≠ w2.heap.size := by omega
         have n4 : w.heap.size + 1 + 1 ≠ w2.heap.size := by omega
         simp at z0 z1 z2 z3 r2 r30 r31 r32 r33 r4
         clear hsub hpos hlen hall hd4))
  all_goals
    clear x0 x1 x2 x3
    go_wp2_with fail
    refine bodyPost_ret (v := .tuple #[.agg #[.slice A4 fs.length cap4], .agg #[.string d.name, .string d.glob, .slice A2 d.cols.length p2, .slice A3 d.idx.length p3], .agg #[.slice A5 rs.length cap5]]) (by simp [results, Tryz.results23, go_sem, r2, r30, r31, r32, r33, r4]) rfl ?_
    refine ⟨_, fs, _, _, _, _, d, _, rs, rfl, (fun (k : Own.Chg (fun g => g = w.heap.size ∨ g = w.heap.size + 1 ∨ g = w.heap.size + 1 + 1) w4 _) => ⟨(nodesO_chg k (fun g hg => by omega) HN4.out).base (by omega), (tabO_chg k (fun g hg => by omega) HT4.out).base (by omega), Own.own_base (sub_chg k (fun g hg => by omega) HU4.out) (by omega), Own.Chg.below (Drawn.below HB1.out HD4.out (by omega) (Nat.le_refl _)) k (fun g hg => by omega) (Nat.le_refl _)⟩) ?_, HTR.out, HTN.out, HRW.out⟩
    (repeat (first | (with_reducible exact Own.Chg.refl _ _) | ((with_reducible refine chgS ?_ ?_); rotate_left; (focus (first | exact .inl rfl | exact .inr (.inl rfl) | exact .inr (.inr rfl))))))
end Go.Proofs.YtfpcjhajjejpdaaGreatDoor
