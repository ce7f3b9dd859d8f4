/-
  The copies that the laws make of struct types, in the form in which the walks take them: a reading relation. FnExactPlanCost returns true, and leaves its arguments as they were; over the table of powers of ten. (Printed by gen_fnpc.py.)
-/
import Derived.Test.YtalpafaflgddpaaGreatDoorDtTo
import Derived.Test.YtalpafaflgddpaaGreatDoorDtEq
import Derived.Test.YtalpafaflgddpaaGreatDoorPc3
import Derived.Deep.RegionHeld3
namespace Go.Proofs.YtalpafaflgddpaaGreatDoor
open Go.RowKit Go.Proofs.YtalpafaflgddpaaGreatDoor.Own

theorem Blk.at {w : World} {g : Nat} {t : TypeId} {cs : Array Value} (h : Blk w g t cs) (i : Nat) {v : Value} (hv : cs[i]? = some v) : w.cell? ⟨g, i, none⟩ = some v := (h.cell i).trans hv
theorem toTree_r (c0 : Value) (d : TreeD) (w : World) (h : TreeR w w.heap.size c0 d) (hs : d.small) :
    Calls Tryz.prog 11 #[.agg #[c0]] w fun e w' => ∃ v0, e = .returned (.agg #[v0]) ∧ TreeR w' w'.heap.size v0 d ∧ Below w.heap.size w w' :=
  (toTree_any c0 d w h hs).mono fun e w' ⟨v0, vs0, he, hO, hb⟩ => by
    obtain ⟨A, cap, rfl, hc, hN⟩ := OwnL.Nodes hO
    exact ⟨_, he, ⟨A, _, cap, rfl, hN, hc⟩, hb⟩
theorem toTable_r (c0 c1 c2 c3 : Value) (d : TableD) (w : World) (h : TableR w w.heap.size c0 c1 c2 c3 d) (hs : d.small) :
    Calls Tryz.prog 12 #[.agg #[c0, c1, c2, c3]] w fun e w' => ∃ v0 v1 v2 v3, e = .returned (.agg #[v0, v1, v2, v3]) ∧ TableR w' w'.heap.size v0 v1 v2 v3 d ∧ Below w.heap.size w w' :=
  (toTable_any c0 c1 c2 c3 d w h hs).mono fun e w' ⟨v2, v3, he, h2, h3, _, hb⟩ => by
    obtain ⟨A, cap, rfl, hc, hN⟩ := h2.strs
    obtain ⟨A', cap', rfl, hc', hN'⟩ := h3.strs
    exact ⟨_, _, _, _, he, ⟨rfl, rfl, ⟨A, _, cap, rfl, hN, hc⟩, ⟨A', _, cap', rfl, hN', hc'⟩⟩, hb⟩
theorem toQuery_r (c0 c1 c2 c3 c4 c5 : Value) (d : QueryD) (w : World) (h : QueryR w w.heap.size c0 c1 c2 c3 c4 c5 d) (hs : d.small) :
    Calls Tryz.prog 13 #[.agg #[c0, c1, c2, c3, c4, c5]] w fun e w' => ∃ v0 v1 v2 v3 v4 v5, e = .returned (.agg #[v0, v1, v2, v3, v4, v5]) ∧ QueryR w' w'.heap.size v0 v1 v2 v3 v4 v5 d ∧ Below w.heap.size w w' :=
  (toQuery_any c0 c1 c2 c3 c4 c5 d w h hs).mono fun e w' ⟨v1, v2, vs2, he, h1, h2, hb⟩ => by
    obtain ⟨A, cap, rfl, hc, hN⟩ := h1.strs
    obtain ⟨A', cap', rfl, hc', hN'⟩ := OwnL.Conds h2
    exact ⟨_, _, _, _, _, _, he, ⟨rfl, ⟨A, _, cap, rfl, hN, hc⟩, ⟨A', _, cap', rfl, hN', hc'⟩, rfl, rfl, rfl⟩, hb⟩
theorem toPlan_r (c0 c1 c2 : Value) (d : PlanD) (w : World) (h : PlanR w w.heap.size c0 c1 c2 d) :
    Calls Tryz.prog 14 #[.agg #[c0, c1, c2]] w fun e w' => ∃ v0 v1 v2, e = .returned (.agg #[v0, v1, v2]) ∧ PlanR w' w'.heap.size v0 v1 v2 d ∧ Below w.heap.size w w' :=
  (toPlan_any c0 c1 c2 d w h).mono fun _ _ ⟨he, hb⟩ => ⟨_, _, _, he, ⟨rfl, rfl, rfl⟩, hb⟩
end Go.Proofs.YtalpafaflgddpaaGreatDoor

namespace Go.Proofs.YtalpafaflgddpaaGreatDoor
open Go.RowKit

theorem specPlanCost_r (a0 b0 b1 b2 b3 c0 c1 c2 c3 c4 c5 e0 e1 e2 : Value) (t : TreeD) (b : TableD) (d : QueryD) (p : PlanD) (w : World) (ht : TreeR w w.heap.size a0 t) (hb : TableR w w.heap.size b0 b1 b2 b3 b) (h : QueryR w w.heap.size c0 c1 c2 c3 c4 c5 d) (hp : PlanR w w.heap.size e0 e1 e2 p) (hts : t.small) (hbs : b.small) (hs : d.small) :
    Calls Tryz.prog 10 #[.agg #[a0], .agg #[b0, b1, b2, b3], .agg #[c0, c1, c2, c3, c4, c5], .agg #[e0, e1, e2]] w fun e w' => e = .returned (.tuple #[.int .i64 (costB t.nodes b d p).1, .int .i64 (costB t.nodes b d p).2]) ∧ Below w.heap.size w w' := by
  obtain ⟨A, n, cap, rfl, hN, _⟩ := ht
  exact specPlanCost_any A n cap b0 b1 b2 b3 c0 c1 c2 c3 c4 c5 e0 e1 e2 t.nodes b d p w hN hb h hp hts hbs hs
theorem PlanCost_r (a0 b0 b1 b2 b3 c0 c1 c2 c3 c4 c5 e0 e1 e2 : Value) (t : TreeD) (b : TableD) (d : QueryD) (p : PlanD) (w : World) (htab : tabT w) (ht : TreeR w w.heap.size a0 t) (hb : TableR w w.heap.size b0 b1 b2 b3 b) (h : QueryR w w.heap.size c0 c1 c2 c3 c4 c5 d) (hp : PlanR w w.heap.size e0 e1 e2 p) (hts : t.small) (hbs : b.small) (hs : d.small) :
    Calls Tryz.prog 15 #[.agg #[a0], .agg #[b0, b1, b2, b3], .agg #[c0, c1, c2, c3, c4, c5], .agg #[e0, e1, e2]] w fun e w' => e = .returned (.tuple #[.int .i64 (costB t.nodes b d p).1, .int .i64 (costB t.nodes b d p).2]) ∧ Below w.heap.size w w' := by
  obtain ⟨A, n, cap, rfl, hN, _⟩ := ht
  exact PlanCost_any A n cap b0 b1 b2 b3 c0 c1 c2 c3 c4 c5 e0 e1 e2 t.nodes b d p w htab hN hb h hp hts hbs hs
set_option maxRecDepth 100000 in
set_option maxHeartbeats 4000000 in
theorem fnPC_walk (a0 b0 b1 b2 b3 c0 c1 c2 c3 c4 c5 e0 e1 e2 : Value) (t : TreeD) (b : TableD) (d : QueryD) (p : PlanD) (w : World) (htab : tabT w) (hTree : TreeR w w.heap.size a0 t) (hTable : TableR w w.heap.size b0 b1 b2 b3 b) (hQuery : QueryR w w.heap.size c0 c1 c2 c3 c4 c5 d) (hPlan : PlanR w w.heap.size e0 e1 e2 p) (fTree : t.fine) (fTable : b.fine) (fQuery : d.fine) (fPlan : p.fine) :
    Calls Tryz.prog 3 #[.agg #[a0], .agg #[b0, b1, b2, b3], .agg #[c0, c1, c2, c3, c4, c5], .agg #[e0, e1, e2]] w fun e w' => e = .returned (.bool true) ∧ Below w.heap.size w w' := by
  have HTAB := Lib.hid htab
  have HRTree := Lib.hid (fun W (hW : Below w.heap.size w W) => hTree.later hW)
  have HSZTree := Lib.hid (fun (x : Int) (h0 : 0 ≤ x) (h1 : x ≤ 1048576) W (hW : Below w.heap.size w W) => szTree_any a0 t x W (hTree.later hW) fTree h0 h1)
  have HGOTree := Lib.hid (szTree_good t)
  have HSMTree := Lib.hid (szTree_small t)
  have HRTable := Lib.hid (fun W (hW : Below w.heap.size w W) => hTable.later hW)
  have HSZTable := Lib.hid (fun (x : Int) (h0 : 0 ≤ x) (h1 : x ≤ 1048576) W (hW : Below w.heap.size w W) => szTable_any b0 b1 b2 b3 b x W (hTable.later hW) fTable h0 h1)
  have HGOTable := Lib.hid (szTable_good b)
  have HSMTable := Lib.hid (szTable_small b)
  have HRQuery := Lib.hid (fun W (hW : Below w.heap.size w W) => hQuery.later hW)
  have HSZQuery := Lib.hid (fun (x : Int) (h0 : 0 ≤ x) (h1 : x ≤ 1048576) W (hW : Below w.heap.size w W) => szQuery_any c0 c1 c2 c3 c4 c5 d x W (hQuery.later hW) fQuery h0 h1)
  have HGOQuery := Lib.hid (szQuery_good d)
  have HSMQuery := Lib.hid (szQuery_small d)
  have HRPlan := Lib.hid (fun W (hW : Below w.heap.size w W) => hPlan.later hW)
  have HSZPlan := Lib.hid (fun (x : Int) (h0 : 0 ≤ x) (h1 : x ≤ 1048576) W (hW : Below w.heap.size w W) => szPlan_any e0 e1 e2 p x W (hPlan.later hW) fPlan h0 h1)
  have HGOPlan := Lib.hid (szPlan_good p)
  have HSMPlan := Lib.hid (szPlan_small p)
  obtain ⟨A0, n0, q0, rfl, _, _⟩ := hTree
  obtain ⟨rfl, rfl, ⟨A2, n2, q2, rfl, _, _⟩, ⟨A3, n3, q3, rfl, _, _⟩⟩ := hTable
  obtain ⟨rfl, ⟨B1, m1, r1, rfl, _, _⟩, ⟨B2, m2, r2, rfl, _, _⟩, rfl, rfl, rfl⟩ := hQuery
  obtain ⟨rfl, rfl, rfl⟩ := hPlan
  clear htab fTree fTable fQuery fPlan
  have HWB := Lib.hid (below_new4 w (.cells #[.slice A0 n0 q0] 24) (.cells #[.string b.name, .string b.glob, .slice A2 n2 q2, .slice A3 n3 q3] 27) (.cells #[.string d.table, .slice B1 m1 r1, .slice B2 m2 r2, .string d.order, .bool d.desc, .int .i64 d.limit] 30) (.cells #[.int .i64 p.kind, .string p.col, .string p.val] 32))
  obtain ⟨WB, hWB⟩ : ∃ WB, WB = (((w.alloc (.cells #[.slice A0 n0 q0] 24)).alloc (.cells #[.string b.name, .string b.glob, .slice A2 n2 q2, .slice A3 n3 q3] 27)).alloc (.cells #[.string d.table, .slice B1 m1 r1, .slice B2 m2 r2, .string d.order, .bool d.desc, .int .i64 d.limit] 30)).alloc (.cells #[.int .i64 p.kind, .string p.col, .string p.val] 32) := ⟨_, rfl⟩
  have HX0 : Hid (Blk WB (w.heap.size) 24 #[.slice A0 n0 q0]) := by subst hWB; exact heap_0of4 _ _ _ _ _
  have HX1 : Hid (Blk WB (w.heap.size + 1) 27 #[.string b.name, .string b.glob, .slice A2 n2 q2, .slice A3 n3 q3]) := by subst hWB; exact heap_1of4 _ _ _ _ _
  have HX2 : Hid (Blk WB (w.heap.size + 1 + 1) 30 #[.string d.table, .slice B1 m1 r1, .slice B2 m2 r2, .string d.order, .bool d.desc, .int .i64 d.limit]) := by subst hWB; exact heap_2of4 _ _ _ _ _
  have HX3 : Hid (Blk WB (w.heap.size + 1 + 1 + 1) 32 #[.int .i64 p.kind, .string p.col, .string p.val]) := by subst hWB; exact heap_3of4 _ _ _ _ _
  have HB0 : Hid (Below w.heap.size w WB) := by subst hWB; exact HWB.out
  have HS1 : Hid (∀ W', Below WB.heap.size WB W' → (W'.cell? ⟨w.heap.size, 0, none⟩ = some (.slice A0 n0 q0) ∧ W'.cell? ⟨w.heap.size + 1, 0, none⟩ = some (.string b.name) ∧ W'.cell? ⟨w.heap.size + 1, 1, none⟩ = some (.string b.glob) ∧ W'.cell? ⟨w.heap.size + 1, 2, none⟩ = some (.slice A2 n2 q2) ∧ W'.cell? ⟨w.heap.size + 1, 3, none⟩ = some (.slice A3 n3 q3) ∧ W'.cell? ⟨w.heap.size + 1 + 1, 0, none⟩ = some (.string d.table) ∧ W'.cell? ⟨w.heap.size + 1 + 1, 1, none⟩ = some (.slice B1 m1 r1) ∧ W'.cell? ⟨w.heap.size + 1 + 1, 2, none⟩ = some (.slice B2 m2 r2) ∧ W'.cell? ⟨w.heap.size + 1 + 1, 3, none⟩ = some (.string d.order) ∧ W'.cell? ⟨w.heap.size + 1 + 1, 4, none⟩ = some (.bool d.desc) ∧ W'.cell? ⟨w.heap.size + 1 + 1, 5, none⟩ = some (.int .i64 d.limit) ∧ W'.cell? ⟨w.heap.size + 1 + 1 + 1, 0, none⟩ = some (.int .i64 p.kind) ∧ W'.cell? ⟨w.heap.size + 1 + 1 + 1, 1, none⟩ = some (.string p.col) ∧ W'.cell? ⟨w.heap.size + 1 + 1 + 1, 2, none⟩ = some (.string p.val))) := fun W' hW => ⟨(HX0.out.later hW HX0.out.lt).at 0 rfl, (HX1.out.later hW HX1.out.lt).at 0 rfl, (HX1.out.later hW HX1.out.lt).at 1 rfl, (HX1.out.later hW HX1.out.lt).at 2 rfl, (HX1.out.later hW HX1.out.lt).at 3 rfl, (HX2.out.later hW HX2.out.lt).at 0 rfl, (HX2.out.later hW HX2.out.lt).at 1 rfl, (HX2.out.later hW HX2.out.lt).at 2 rfl, (HX2.out.later hW HX2.out.lt).at 3 rfl, (HX2.out.later hW HX2.out.lt).at 4 rfl, (HX2.out.later hW HX2.out.lt).at 5 rfl, (HX3.out.later hW HX3.out.lt).at 0 rfl, (HX3.out.later hW HX3.out.lt).at 1 rfl, (HX3.out.later hW HX3.out.lt).at 2 rfl⟩
  have HBW0 : Hid (Below WB.heap.size WB WB) := Below.refl _ _
  go_enter Tryz.func3, Tryz.ntmps3
  go_wp2_with fail
  rw [← hWB]
  clear hWB
  refine (HSZTree.out 1048576 (by omega) (by omega) _ HB0.out).mono ?_
  rintro e w1 ⟨rfl, hb1⟩
  have HB1 := Lib.hid (HB0.out.later hb1)
  have HBW1 := Lib.hid (HBW0.out.later hb1)
  have hg0 := HGOTree.out 1048576 (by omega)
  have HSM0 := Lib.hid (HSMTree.out 1048576 (by omega) (by omega))
  clear hb1 HSZTree HGOTree HSMTree
  generalize szTree t 1048576 = x0 at *
  by_cases hneg0 : x0 < 0
  · go_wp2_with fail
    go_ret
    exact ⟨rfl, HB1.out⟩
  have hS := HS1.out _ HBW1.out
  obtain ⟨s0, s1, s2, s3, s4, s5, s6, s7, s8, s9, s10, s11, s12, s13⟩ := hS
  go_wp2_with fail
  clear s0 s1 s2 s3 s4 s5 s6 s7 s8 s9 s10 s11 s12 s13
  refine (HSZTable.out x0 (by omega) (by omega) _ HB1.out).mono ?_
  rintro e w2 ⟨rfl, hb2⟩
  have HB2 := Lib.hid (HB1.out.later hb2)
  have HBW2 := Lib.hid (HBW1.out.later hb2)
  have hg1 := HGOTable.out x0 (by omega)
  have HSM1 := Lib.hid (HSMTable.out x0 (by omega) (by omega))
  clear hb2 HSZTable HGOTable HSMTable
  generalize szTable b x0 = x1 at *
  by_cases hneg1 : x1 < 0
  · go_wp2_with fail
    go_ret
    exact ⟨rfl, HB2.out⟩
  have hS := HS1.out _ HBW2.out
  obtain ⟨s0, s1, s2, s3, s4, s5, s6, s7, s8, s9, s10, s11, s12, s13⟩ := hS
  go_wp2_with fail
  clear s0 s1 s2 s3 s4 s5 s6 s7 s8 s9 s10 s11 s12 s13
  refine (HSZQuery.out x1 (by omega) (by omega) _ HB2.out).mono ?_
  rintro e w3 ⟨rfl, hb3⟩
  have HB3 := Lib.hid (HB2.out.later hb3)
  have HBW3 := Lib.hid (HBW2.out.later hb3)
  have hg2 := HGOQuery.out x1 (by omega)
  have HSM2 := Lib.hid (HSMQuery.out x1 (by omega) (by omega))
  clear hb3 HSZQuery HGOQuery HSMQuery
  generalize szQuery d x1 = x2 at *
  by_cases hneg2 : x2 < 0
  · go_wp2_with fail
    go_ret
    exact ⟨rfl, HB3.out⟩
  have hS := HS1.out _ HBW3.out
  obtain ⟨s0, s1, s2, s3, s4, s5, s6, s7, s8, s9, s10, s11, s12, s13⟩ := hS
  go_wp2_with fail
  clear s0 s1 s2 s3 s4 s5 s6 s7 s8 s9 s10 s11 s12 s13
  refine (HSZPlan.out x2 (by omega) (by omega) _ HB3.out).mono ?_
  rintro e w4 ⟨rfl, hb4⟩
  have HB4 := Lib.hid (HB3.out.later hb4)
  have HBW4 := Lib.hid (HBW3.out.later hb4)
  have hg3 := HGOPlan.out x2 (by omega)
  have HSM3 := Lib.hid (HSMPlan.out x2 (by omega) (by omega))
  clear hb4 HSZPlan HGOPlan HSMPlan
  generalize szPlan p x2 = x3 at *
  by_cases hneg3 : x3 < 0
  · go_wp2_with fail
    go_ret
    exact ⟨rfl, HB4.out⟩
  have hS := HS1.out _ HBW4.out
  obtain ⟨s0, s1, s2, s3, s4, s5, s6, s7, s8, s9, s10, s11, s12, s13⟩ := hS
  have hsT := HSM0.out (by omega)
  have hsB := HSM1.out (by omega)
  have hsQ := HSM2.out (by omega)
  have HTO0 := Lib.hid (fun W (hW : Below w.heap.size w W) => toTree_r _ t W (HRTree.out W hW) hsT)
  have HTO1 := Lib.hid (fun W (hW : Below w.heap.size w W) => toTable_r _ _ _ _ b W (HRTable.out W hW) hsB)
  have HTO2 := Lib.hid (fun W (hW : Below w.heap.size w W) => toQuery_r _ _ _ _ _ _ d W (HRQuery.out W hW) hsQ)
  have HTO3 := Lib.hid (fun W (hW : Below w.heap.size w W) => toPlan_r _ _ _ p W (HRPlan.out W hW))
  have HSP := Lib.hid (fun W a0 b0 b1 b2 b3 c0 c1 c2 c3 c4 c5 e0 e1 e2 h1 h2 h3 h4 => specPlanCost_r a0 b0 b1 b2 b3 c0 c1 c2 c3 c4 c5 e0 e1 e2 t b d p W h1 h2 h3 h4 hsT hsB hsQ)
  have HIM := Lib.hid (fun W (hW : Below w.heap.size w W) a0 b0 b1 b2 b3 c0 c1 c2 c3 c4 c5 e0 e1 e2 h1 h2 h3 h4 => PlanCost_r a0 b0 b1 b2 b3 c0 c1 c2 c3 c4 c5 e0 e1 e2 t b d p W (tab_later HTAB.out hW) h1 h2 h3 h4 hsT hsB hsQ)
  have HE0 := Lib.hid (fun W c0 d0 h h' => eqTree_same c0 d0 t W h h' hsT)
  have HE1 := Lib.hid (fun W c0 c1 c2 c3 d0 d1 d2 d3 h h' => eqTable_same c0 c1 c2 c3 d0 d1 d2 d3 b W h h' hsB)
  have HE2 := Lib.hid (fun W c0 c1 c2 c3 c4 c5 d0 d1 d2 d3 d4 d5 h h' => eqQuery_same c0 c1 c2 c3 c4 c5 d0 d1 d2 d3 d4 d5 d W h h' hsQ)
  clear hsT hsB hsQ HSM0 HSM1 HSM2 HSM3 hg0 hg1 hg2 hg3 hneg0 hneg1 hneg2 HTAB HRTree HRTable HRQuery HRPlan
  generalize costB t.nodes b d p = R at *
  obtain ⟨R1, R2⟩ := R
  go_wp2_with fail
  go_region_held3 (fun w' => w'.cell? ⟨w.heap.size, 0, none⟩ = some (.slice A0 n0 q0) ∧ w'.cell? ⟨w.heap.size + 1, 0, none⟩ = some (.string b.name) ∧ w'.cell? ⟨w.heap.size + 1, 1, none⟩ = some (.string b.glob) ∧ w'.cell? ⟨w.heap.size + 1, 2, none⟩ = some (.slice A2 n2 q2) ∧ w'.cell? ⟨w.heap.size + 1, 3, none⟩ = some (.slice A3 n3 q3) ∧ w'.cell? ⟨w.heap.size + 1 + 1, 0, none⟩ = some (.string d.table) ∧ w'.cell? ⟨w.heap.size + 1 + 1, 1, none⟩ = some (.slice B1 m1 r1) ∧ w'.cell? ⟨w.heap.size + 1 + 1, 2, none⟩ = some (.slice B2 m2 r2) ∧ w'.cell? ⟨w.heap.size + 1 + 1, 3, none⟩ = some (.string d.order) ∧ w'.cell? ⟨w.heap.size + 1 + 1, 4, none⟩ = some (.bool d.desc) ∧ w'.cell? ⟨w.heap.size + 1 + 1, 5, none⟩ = some (.int .i64 d.limit) ∧ w'.cell? ⟨w.heap.size + 1 + 1 + 1, 0, none⟩ = some (.int .i64 p.kind) ∧ w'.cell? ⟨w.heap.size + 1 + 1 + 1, 1, none⟩ = some (.string p.col) ∧ w'.cell? ⟨w.heap.size + 1 + 1 + 1, 2, none⟩ = some (.string p.val)) (first | exact HS1.out _ (HBW4.out.later hb14) | exact HS1.out _ (HBW4.out.later hb13) | exact HS1.out _ (HBW4.out.later hb12) | exact HS1.out _ (HBW4.out.later hb11) | exact HS1.out _ (HBW4.out.later hb10) | exact HS1.out _ HBW4.out.drew)
    (first
      | (go_at_call 11; refine (HTO0.out _ (by exact HB4.out.drew)).mono ?_; rintro e w10 ⟨t0, rfl, hr10, hb10'⟩; have hb10 := undrew hb10'; have HR10 := Lib.hid hr10; clear hr10 hb10')
      | (go_at_call 12; refine (HTO1.out _ (by exact HB4.out.later hb10)).mono ?_; rintro e w11 ⟨u0, u1, u2, u3, rfl, hr11, hb11'⟩; have hb11 := hb10.later hb11'; have HR11 := Lib.hid hr11; have HR10 := Lib.hid (HR10.out.later hb11'); clear hr11 hb11')
      | (go_at_call 13; refine (HTO2.out _ (by exact HB4.out.later hb11)).mono ?_; rintro e w12 ⟨y0, y1, y2, y3, y4, y5, rfl, hr12, hb12'⟩; have hb12 := hb11.later hb12'; have HR12 := Lib.hid hr12; have HR10 := Lib.hid (HR10.out.later hb12'); have HR11 := Lib.hid (HR11.out.later hb12'); clear hr12 hb12')
      | (go_at_call 14; refine (HTO3.out _ (by exact HB4.out.later hb12)).mono ?_; rintro e w13 ⟨z0, z1, z2, rfl, hr13, hb13'⟩; have hb13 := hb12.later hb13'; have HR13 := Lib.hid hr13; have HR10 := Lib.hid (HR10.out.later hb13'); have HR11 := Lib.hid (HR11.out.later hb13'); have HR12 := Lib.hid (HR12.out.later hb13'); clear hr13 hb13')
      | (go_at_call 10; refine (HSP.out _ _ _ _ _ _ _ _ _ _ _ _ _ _ _ HR10.out HR11.out HR12.out HR13.out).mono ?_; rintro e w14 ⟨rfl, hb14'⟩; have hb14 := hb13.later hb14'; clear hb14'))
  have HB5 := Lib.hid (HB4.out.later hb14)
  have HBW5 := Lib.hid (HBW4.out.later hb14)
  clear hb10 hb11 hb12 hb13 hb14 HR10 HR11 HR12 HR13
  clear s0 s1 s2 s3 s4 s5 s6 s7 s8 s9 s10 s11 s12 s13
  obtain ⟨s0, s1, s2, s3, s4, s5, s6, s7, s8, s9, s10, s11, s12, s13⟩ := HS1.out _ HBW5.out
  go_wp2_with fail
  refine (HTO0.out _ HB5.out).mono ?_
  rintro e v0 ⟨t0, rfl, hr, hb⟩
  have HRX0 := Lib.hid hr
  clear hr
  obtain ⟨X0, xn0, xq0, rfl, _, _⟩ := HRX0.out
  have HQ0 : Hid (Blk (v0.alloc (.cells #[.slice X0 xn0 xq0] 41)) v0.heap.size 41 #[.slice X0 xn0 xq0]) := heap_last rfl
  have hbn := hb.later (Below.new v0 (.cells #[.slice X0 xn0 xq0] 41))
  have HB6 := Lib.hid (HB5.out.later hbn)
  have HBW6 := Lib.hid (HBW5.out.later hbn)
  have HRX0 := Lib.hid (HRX0.out.later (Below.new v0 (.cells #[.slice X0 xn0 xq0] 41)))
  clear hb hbn s0 s1 s2 s3 s4 s5 s6 s7 s8 s9 s10 s11 s12 s13
  obtain ⟨s0, s1, s2, s3, s4, s5, s6, s7, s8, s9, s10, s11, s12, s13⟩ := HS1.out _ HBW6.out
  go_wp2_with fail
  refine (HTO1.out _ HB6.out).mono ?_
  rintro e v1 ⟨u0, u1, u2, u3, rfl, hr, hb⟩
  have HRX1 := Lib.hid hr
  clear hr
  obtain ⟨rfl, rfl, ⟨X2, xn2, xq2, rfl, _, _⟩, ⟨X3, xn3, xq3, rfl, _, _⟩⟩ := HRX1.out
  have HQ1 : Hid (Blk (v1.alloc (.cells #[.string b.name, .string b.glob, .slice X2 xn2 xq2, .slice X3 xn3 xq3] 43)) v1.heap.size 43 #[.string b.name, .string b.glob, .slice X2 xn2 xq2, .slice X3 xn3 xq3]) := heap_last rfl
  have hbn := hb.later (Below.new v1 (.cells #[.string b.name, .string b.glob, .slice X2 xn2 xq2, .slice X3 xn3 xq3] 43))
  have HB7 := Lib.hid (HB6.out.later hbn)
  have HBW7 := Lib.hid (HBW6.out.later hbn)
  have HQ0 := Lib.hid (HQ0.out.later hbn HQ0.out.lt)
  have HRX0 := Lib.hid (HRX0.out.later hbn)
  have HRX1 := Lib.hid (HRX1.out.later (Below.new v1 (.cells #[.string b.name, .string b.glob, .slice X2 xn2 xq2, .slice X3 xn3 xq3] 43)))
  clear hb hbn s0 s1 s2 s3 s4 s5 s6 s7 s8 s9 s10 s11 s12 s13
  obtain ⟨s0, s1, s2, s3, s4, s5, s6, s7, s8, s9, s10, s11, s12, s13⟩ := HS1.out _ HBW7.out
  go_wp2_with fail
  refine (HTO2.out _ HB7.out).mono ?_
  rintro e v2 ⟨y0, y1, y2, y3, y4, y5, rfl, hr, hb⟩
  have HRX2 := Lib.hid hr
  clear hr
  obtain ⟨rfl, ⟨Y1, yn1, yq1, rfl, _, _⟩, ⟨Y2, yn2, yq2, rfl, _, _⟩, rfl, rfl, rfl⟩ := HRX2.out
  have HQ2 : Hid (Blk (v2.alloc (.cells #[.string d.table, .slice Y1 yn1 yq1, .slice Y2 yn2 yq2, .string d.order, .bool d.desc, .int .i64 d.limit] 47)) v2.heap.size 47 #[.string d.table, .slice Y1 yn1 yq1, .slice Y2 yn2 yq2, .string d.order, .bool d.desc, .int .i64 d.limit]) := heap_last rfl
  have hbn := hb.later (Below.new v2 (.cells #[.string d.table, .slice Y1 yn1 yq1, .slice Y2 yn2 yq2, .string d.order, .bool d.desc, .int .i64 d.limit] 47))
  have HB8 := Lib.hid (HB7.out.later hbn)
  have HBW8 := Lib.hid (HBW7.out.later hbn)
  have HQ0 := Lib.hid (HQ0.out.later hbn HQ0.out.lt)
  have HRX0 := Lib.hid (HRX0.out.later hbn)
  have HQ1 := Lib.hid (HQ1.out.later hbn HQ1.out.lt)
  have HRX1 := Lib.hid (HRX1.out.later hbn)
  have HRX2 := Lib.hid (HRX2.out.later (Below.new v2 (.cells #[.string d.table, .slice Y1 yn1 yq1, .slice Y2 yn2 yq2, .string d.order, .bool d.desc, .int .i64 d.limit] 47)))
  clear hb hbn s0 s1 s2 s3 s4 s5 s6 s7 s8 s9 s10 s11 s12 s13
  obtain ⟨WX, hWX⟩ : ∃ WX, WX = (v2.alloc (.cells #[.string d.table, .slice Y1 yn1 yq1, .slice Y2 yn2 yq2, .string d.order, .bool d.desc, .int .i64 d.limit] 47)) := ⟨_, rfl⟩
  rw [← hWX] at HB8 HBW8 HQ0 HQ1 HQ2 HRX0 HRX1 HRX2
  have HS2 : Hid (∀ W', Below WX.heap.size WX W' → (W'.cell? ⟨v0.heap.size, 0, none⟩ = some (.slice X0 xn0 xq0) ∧ W'.cell? ⟨v1.heap.size, 0, none⟩ = some (.string b.name) ∧ W'.cell? ⟨v1.heap.size, 1, none⟩ = some (.string b.glob) ∧ W'.cell? ⟨v1.heap.size, 2, none⟩ = some (.slice X2 xn2 xq2) ∧ W'.cell? ⟨v1.heap.size, 3, none⟩ = some (.slice X3 xn3 xq3) ∧ W'.cell? ⟨v2.heap.size, 0, none⟩ = some (.string d.table) ∧ W'.cell? ⟨v2.heap.size, 1, none⟩ = some (.slice Y1 yn1 yq1) ∧ W'.cell? ⟨v2.heap.size, 2, none⟩ = some (.slice Y2 yn2 yq2) ∧ W'.cell? ⟨v2.heap.size, 3, none⟩ = some (.string d.order) ∧ W'.cell? ⟨v2.heap.size, 4, none⟩ = some (.bool d.desc) ∧ W'.cell? ⟨v2.heap.size, 5, none⟩ = some (.int .i64 d.limit))) := fun W' hW => ⟨(HQ0.out.later hW HQ0.out.lt).at 0 rfl, (HQ1.out.later hW HQ1.out.lt).at 0 rfl, (HQ1.out.later hW HQ1.out.lt).at 1 rfl, (HQ1.out.later hW HQ1.out.lt).at 2 rfl, (HQ1.out.later hW HQ1.out.lt).at 3 rfl, (HQ2.out.later hW HQ2.out.lt).at 0 rfl, (HQ2.out.later hW HQ2.out.lt).at 1 rfl, (HQ2.out.later hW HQ2.out.lt).at 2 rfl, (HQ2.out.later hW HQ2.out.lt).at 3 rfl, (HQ2.out.later hW HQ2.out.lt).at 4 rfl, (HQ2.out.later hW HQ2.out.lt).at 5 rfl⟩
  obtain ⟨s0, s1, s2, s3, s4, s5, s6, s7, s8, s9, s10, s11, s12, s13⟩ := HS1.out _ HBW8.out
  obtain ⟨g0, g1, g2, g3, g4, g5, g6, g7, g8, g9, g10⟩ := HS2.out WX (Below.refl _ _)
  go_wp2_with fail
  rw [← hWX]
  clear hWX
  go_region_held3 (fun w' => (w'.cell? ⟨w.heap.size, 0, none⟩ = some (.slice A0 n0 q0) ∧ w'.cell? ⟨w.heap.size + 1, 0, none⟩ = some (.string b.name) ∧ w'.cell? ⟨w.heap.size + 1, 1, none⟩ = some (.string b.glob) ∧ w'.cell? ⟨w.heap.size + 1, 2, none⟩ = some (.slice A2 n2 q2) ∧ w'.cell? ⟨w.heap.size + 1, 3, none⟩ = some (.slice A3 n3 q3) ∧ w'.cell? ⟨w.heap.size + 1 + 1, 0, none⟩ = some (.string d.table) ∧ w'.cell? ⟨w.heap.size + 1 + 1, 1, none⟩ = some (.slice B1 m1 r1) ∧ w'.cell? ⟨w.heap.size + 1 + 1, 2, none⟩ = some (.slice B2 m2 r2) ∧ w'.cell? ⟨w.heap.size + 1 + 1, 3, none⟩ = some (.string d.order) ∧ w'.cell? ⟨w.heap.size + 1 + 1, 4, none⟩ = some (.bool d.desc) ∧ w'.cell? ⟨w.heap.size + 1 + 1, 5, none⟩ = some (.int .i64 d.limit) ∧ w'.cell? ⟨w.heap.size + 1 + 1 + 1, 0, none⟩ = some (.int .i64 p.kind) ∧ w'.cell? ⟨w.heap.size + 1 + 1 + 1, 1, none⟩ = some (.string p.col) ∧ w'.cell? ⟨w.heap.size + 1 + 1 + 1, 2, none⟩ = some (.string p.val)) ∧ (w'.cell? ⟨v0.heap.size, 0, none⟩ = some (.slice X0 xn0 xq0) ∧ w'.cell? ⟨v1.heap.size, 0, none⟩ = some (.string b.name) ∧ w'.cell? ⟨v1.heap.size, 1, none⟩ = some (.string b.glob) ∧ w'.cell? ⟨v1.heap.size, 2, none⟩ = some (.slice X2 xn2 xq2) ∧ w'.cell? ⟨v1.heap.size, 3, none⟩ = some (.slice X3 xn3 xq3) ∧ w'.cell? ⟨v2.heap.size, 0, none⟩ = some (.string d.table) ∧ w'.cell? ⟨v2.heap.size, 1, none⟩ = some (.slice Y1 yn1 yq1) ∧ w'.cell? ⟨v2.heap.size, 2, none⟩ = some (.slice Y2 yn2 yq2) ∧ w'.cell? ⟨v2.heap.size, 3, none⟩ = some (.string d.order) ∧ w'.cell? ⟨v2.heap.size, 4, none⟩ = some (.bool d.desc) ∧ w'.cell? ⟨v2.heap.size, 5, none⟩ = some (.int .i64 d.limit))) (first | exact ⟨HS1.out _ (HBW8.out.later hb21), HS2.out _ hb21⟩ | exact ⟨HS1.out _ (HBW8.out.later hb20), HS2.out _ hb20⟩ | exact ⟨HS1.out _ HBW8.out.drew, HS2.out _ (Below.refl WX.heap.size WX).drew⟩)
    (first
      | (go_at_call 14; refine (HTO3.out _ (by exact HB8.out.drew)).mono ?_; rintro e w20 ⟨z0, z1, z2, rfl, hr20, hb20'⟩; have hb20 := undrew hb20'; have HR20 := Lib.hid hr20; clear hr20 hb20')
      | (go_at_call 15; refine (HIM.out _ (by exact HB8.out.later hb20) _ _ _ _ _ _ _ _ _ _ _ _ _ _ (HRX0.out.later hb20) (HRX1.out.later hb20) (HRX2.out.later hb20) HR20.out).mono ?_; rintro e w21 ⟨rfl, hb21'⟩; have hb21 := hb20.later hb21'; clear hb21'))
  have HB9 := Lib.hid (HB8.out.later hb21)
  have HBW9 := Lib.hid (HBW8.out.later hb21)
  have HBX9 := Lib.hid hb21
  clear hb20 hb21 HR20 s0 s1 s2 s3 s4 s5 s6 s7 s8 s9 s10 s11 s12 s13 g0 g1 g2 g3 g4 g5 g6 g7 g8 g9 g10
  obtain ⟨s0, s1, s2, s3, s4, s5, s6, s7, s8, s9, s10, s11, s12, s13⟩ := HS1.out _ HBW9.out
  obtain ⟨g0, g1, g2, g3, g4, g5, g6, g7, g8, g9, g10⟩ := HS2.out _ HBX9.out
  go_wp2_with fail
  go_region_held3 (fun w' => (w'.cell? ⟨w.heap.size, 0, none⟩ = some (.slice A0 n0 q0) ∧ w'.cell? ⟨w.heap.size + 1, 0, none⟩ = some (.string b.name) ∧ w'.cell? ⟨w.heap.size + 1, 1, none⟩ = some (.string b.glob) ∧ w'.cell? ⟨w.heap.size + 1, 2, none⟩ = some (.slice A2 n2 q2) ∧ w'.cell? ⟨w.heap.size + 1, 3, none⟩ = some (.slice A3 n3 q3) ∧ w'.cell? ⟨w.heap.size + 1 + 1, 0, none⟩ = some (.string d.table) ∧ w'.cell? ⟨w.heap.size + 1 + 1, 1, none⟩ = some (.slice B1 m1 r1) ∧ w'.cell? ⟨w.heap.size + 1 + 1, 2, none⟩ = some (.slice B2 m2 r2) ∧ w'.cell? ⟨w.heap.size + 1 + 1, 3, none⟩ = some (.string d.order) ∧ w'.cell? ⟨w.heap.size + 1 + 1, 4, none⟩ = some (.bool d.desc) ∧ w'.cell? ⟨w.heap.size + 1 + 1, 5, none⟩ = some (.int .i64 d.limit) ∧ w'.cell? ⟨w.heap.size + 1 + 1 + 1, 0, none⟩ = some (.int .i64 p.kind) ∧ w'.cell? ⟨w.heap.size + 1 + 1 + 1, 1, none⟩ = some (.string p.col) ∧ w'.cell? ⟨w.heap.size + 1 + 1 + 1, 2, none⟩ = some (.string p.val)) ∧ (w'.cell? ⟨v0.heap.size, 0, none⟩ = some (.slice X0 xn0 xq0) ∧ w'.cell? ⟨v1.heap.size, 0, none⟩ = some (.string b.name) ∧ w'.cell? ⟨v1.heap.size, 1, none⟩ = some (.string b.glob) ∧ w'.cell? ⟨v1.heap.size, 2, none⟩ = some (.slice X2 xn2 xq2) ∧ w'.cell? ⟨v1.heap.size, 3, none⟩ = some (.slice X3 xn3 xq3) ∧ w'.cell? ⟨v2.heap.size, 0, none⟩ = some (.string d.table) ∧ w'.cell? ⟨v2.heap.size, 1, none⟩ = some (.slice Y1 yn1 yq1) ∧ w'.cell? ⟨v2.heap.size, 2, none⟩ = some (.slice Y2 yn2 yq2) ∧ w'.cell? ⟨v2.heap.size, 3, none⟩ = some (.string d.order) ∧ w'.cell? ⟨v2.heap.size, 4, none⟩ = some (.bool d.desc) ∧ w'.cell? ⟨v2.heap.size, 5, none⟩ = some (.int .i64 d.limit))) (first | exact ⟨HS1.out _ (HBW9.out.later hb31), HS2.out _ (HBX9.out.later hb31)⟩ | exact ⟨HS1.out _ (HBW9.out.later hb30), HS2.out _ (HBX9.out.later hb30)⟩ | exact ⟨HS1.out _ HBW9.out.drew, HS2.out _ HBX9.out.drew⟩)
    (first
      | (go_at_call 11; refine (HTO0.out _ (by exact HB9.out.drew)).mono ?_; rintro e w30 ⟨t0, rfl, hr30, hb30'⟩; have hb30 := undrew hb30'; have HR30 := Lib.hid hr30; clear hr30 hb30')
      | (go_at_call 16; refine (HE0.out _ _ _ (by exact HRX0.out.later (HBX9.out.later hb30)) HR30.out).mono ?_; rintro e w31 ⟨rfl, hb31'⟩; have hb31 := hb30.later hb31'; clear hb31'))
  have HB10 := Lib.hid (HB9.out.later hb31)
  have HBW10 := Lib.hid (HBW9.out.later hb31)
  have HBX10 := Lib.hid (HBX9.out.later hb31)
  clear hb30 hb31 HR30 s0 s1 s2 s3 s4 s5 s6 s7 s8 s9 s10 s11 s12 s13 g0 g1 g2 g3 g4 g5 g6 g7 g8 g9 g10
  obtain ⟨s0, s1, s2, s3, s4, s5, s6, s7, s8, s9, s10, s11, s12, s13⟩ := HS1.out _ HBW10.out
  obtain ⟨g0, g1, g2, g3, g4, g5, g6, g7, g8, g9, g10⟩ := HS2.out _ HBX10.out
  go_wp2_with fail
  go_region_held3 (fun w' => (w'.cell? ⟨w.heap.size, 0, none⟩ = some (.slice A0 n0 q0) ∧ w'.cell? ⟨w.heap.size + 1, 0, none⟩ = some (.string b.name) ∧ w'.cell? ⟨w.heap.size + 1, 1, none⟩ = some (.string b.glob) ∧ w'.cell? ⟨w.heap.size + 1, 2, none⟩ = some (.slice A2 n2 q2) ∧ w'.cell? ⟨w.heap.size + 1, 3, none⟩ = some (.slice A3 n3 q3) ∧ w'.cell? ⟨w.heap.size + 1 + 1, 0, none⟩ = some (.string d.table) ∧ w'.cell? ⟨w.heap.size + 1 + 1, 1, none⟩ = some (.slice B1 m1 r1) ∧ w'.cell? ⟨w.heap.size + 1 + 1, 2, none⟩ = some (.slice B2 m2 r2) ∧ w'.cell? ⟨w.heap.size + 1 + 1, 3, none⟩ = some (.string d.order) ∧ w'.cell? ⟨w.heap.size + 1 + 1, 4, none⟩ = some (.bool d.desc) ∧ w'.cell? ⟨w.heap.size + 1 + 1, 5, none⟩ = some (.int .i64 d.limit) ∧ w'.cell? ⟨w.heap.size + 1 + 1 + 1, 0, none⟩ = some (.int .i64 p.kind) ∧ w'.cell? ⟨w.heap.size + 1 + 1 + 1, 1, none⟩ = some (.string p.col) ∧ w'.cell? ⟨w.heap.size + 1 + 1 + 1, 2, none⟩ = some (.string p.val)) ∧ (w'.cell? ⟨v0.heap.size, 0, none⟩ = some (.slice X0 xn0 xq0) ∧ w'.cell? ⟨v1.heap.size, 0, none⟩ = some (.string b.name) ∧ w'.cell? ⟨v1.heap.size, 1, none⟩ = some (.string b.glob) ∧ w'.cell? ⟨v1.heap.size, 2, none⟩ = some (.slice X2 xn2 xq2) ∧ w'.cell? ⟨v1.heap.size, 3, none⟩ = some (.slice X3 xn3 xq3) ∧ w'.cell? ⟨v2.heap.size, 0, none⟩ = some (.string d.table) ∧ w'.cell? ⟨v2.heap.size, 1, none⟩ = some (.slice Y1 yn1 yq1) ∧ w'.cell? ⟨v2.heap.size, 2, none⟩ = some (.slice Y2 yn2 yq2) ∧ w'.cell? ⟨v2.heap.size, 3, none⟩ = some (.string d.order) ∧ w'.cell? ⟨v2.heap.size, 4, none⟩ = some (.bool d.desc) ∧ w'.cell? ⟨v2.heap.size, 5, none⟩ = some (.int .i64 d.limit))) (first | exact ⟨HS1.out _ (HBW10.out.later hb33), HS2.out _ (HBX10.out.later hb33)⟩ | exact ⟨HS1.out _ (HBW10.out.later hb32), HS2.out _ (HBX10.out.later hb32)⟩ | exact ⟨HS1.out _ HBW10.out.drew, HS2.out _ HBX10.out.drew⟩)
    (first
      | (go_at_call 12; refine (HTO1.out _ (by exact HB10.out.drew)).mono ?_; rintro e w32 ⟨u0, u1, u2, u3, rfl, hr32, hb32'⟩; have hb32 := undrew hb32'; have HR32 := Lib.hid hr32; clear hr32 hb32')
      | (go_at_call 17; refine (HE1.out _ _ _ _ _ _ _ _ _ (by exact HRX1.out.later (HBX10.out.later hb32)) HR32.out).mono ?_; rintro e w33 ⟨rfl, hb33'⟩; have hb33 := hb32.later hb33'; clear hb33'))
  have HB11 := Lib.hid (HB10.out.later hb33)
  have HBW11 := Lib.hid (HBW10.out.later hb33)
  have HBX11 := Lib.hid (HBX10.out.later hb33)
  clear hb32 hb33 HR32 s0 s1 s2 s3 s4 s5 s6 s7 s8 s9 s10 s11 s12 s13 g0 g1 g2 g3 g4 g5 g6 g7 g8 g9 g10
  obtain ⟨s0, s1, s2, s3, s4, s5, s6, s7, s8, s9, s10, s11, s12, s13⟩ := HS1.out _ HBW11.out
  obtain ⟨g0, g1, g2, g3, g4, g5, g6, g7, g8, g9, g10⟩ := HS2.out _ HBX11.out
  go_wp2_with fail
  go_region_held3 (fun w' => (w'.cell? ⟨w.heap.size, 0, none⟩ = some (.slice A0 n0 q0) ∧ w'.cell? ⟨w.heap.size + 1, 0, none⟩ = some (.string b.name) ∧ w'.cell? ⟨w.heap.size + 1, 1, none⟩ = some (.string b.glob) ∧ w'.cell? ⟨w.heap.size + 1, 2, none⟩ = some (.slice A2 n2 q2) ∧ w'.cell? ⟨w.heap.size + 1, 3, none⟩ = some (.slice A3 n3 q3) ∧ w'.cell? ⟨w.heap.size + 1 + 1, 0, none⟩ = some (.string d.table) ∧ w'.cell? ⟨w.heap.size + 1 + 1, 1, none⟩ = some (.slice B1 m1 r1) ∧ w'.cell? ⟨w.heap.size + 1 + 1, 2, none⟩ = some (.slice B2 m2 r2) ∧ w'.cell? ⟨w.heap.size + 1 + 1, 3, none⟩ = some (.string d.order) ∧ w'.cell? ⟨w.heap.size + 1 + 1, 4, none⟩ = some (.bool d.desc) ∧ w'.cell? ⟨w.heap.size + 1 + 1, 5, none⟩ = some (.int .i64 d.limit) ∧ w'.cell? ⟨w.heap.size + 1 + 1 + 1, 0, none⟩ = some (.int .i64 p.kind) ∧ w'.cell? ⟨w.heap.size + 1 + 1 + 1, 1, none⟩ = some (.string p.col) ∧ w'.cell? ⟨w.heap.size + 1 + 1 + 1, 2, none⟩ = some (.string p.val)) ∧ (w'.cell? ⟨v0.heap.size, 0, none⟩ = some (.slice X0 xn0 xq0) ∧ w'.cell? ⟨v1.heap.size, 0, none⟩ = some (.string b.name) ∧ w'.cell? ⟨v1.heap.size, 1, none⟩ = some (.string b.glob) ∧ w'.cell? ⟨v1.heap.size, 2, none⟩ = some (.slice X2 xn2 xq2) ∧ w'.cell? ⟨v1.heap.size, 3, none⟩ = some (.slice X3 xn3 xq3) ∧ w'.cell? ⟨v2.heap.size, 0, none⟩ = some (.string d.table) ∧ w'.cell? ⟨v2.heap.size, 1, none⟩ = some (.slice Y1 yn1 yq1) ∧ w'.cell? ⟨v2.heap.size, 2, none⟩ = some (.slice Y2 yn2 yq2) ∧ w'.cell? ⟨v2.heap.size, 3, none⟩ = some (.string d.order) ∧ w'.cell? ⟨v2.heap.size, 4, none⟩ = some (.bool d.desc) ∧ w'.cell? ⟨v2.heap.size, 5, none⟩ = some (.int .i64 d.limit))) (first | exact ⟨HS1.out _ (HBW11.out.later hb35), HS2.out _ (HBX11.out.later hb35)⟩ | exact ⟨HS1.out _ (HBW11.out.later hb34), HS2.out _ (HBX11.out.later hb34)⟩ | exact ⟨HS1.out _ HBW11.out.drew, HS2.out _ HBX11.out.drew⟩)
    (first
      | (go_at_call 13; refine (HTO2.out _ (by exact HB11.out.drew)).mono ?_; rintro e w34 ⟨y0, y1, y2, y3, y4, y5, rfl, hr34, hb34'⟩; have hb34 := undrew hb34'; have HR34 := Lib.hid hr34; clear hr34 hb34')
      | (go_at_call 18; refine (HE2.out _ _ _ _ _ _ _ _ _ _ _ _ _ (by exact HRX2.out.later (HBX11.out.later hb34)) HR34.out).mono ?_; rintro e w35 ⟨rfl, hb35'⟩; have hb35 := hb34.later hb35'; clear hb35'))
  have HB12 := Lib.hid (HB11.out.later hb35)
  have HBW12 := Lib.hid (HBW11.out.later hb35)
  have HBX12 := Lib.hid (HBX11.out.later hb35)
  clear hb34 hb35 HR34 s0 s1 s2 s3 s4 s5 s6 s7 s8 s9 s10 s11 s12 s13 g0 g1 g2 g3 g4 g5 g6 g7 g8 g9 g10
  go_wp2_with fail
  go_ret
  exact ⟨rfl, HB12.out⟩
end Go.Proofs.YtalpafaflgddpaaGreatDoor

