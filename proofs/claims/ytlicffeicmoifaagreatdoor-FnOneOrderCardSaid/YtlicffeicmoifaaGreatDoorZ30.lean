import Derived.Test.YtlicffeicmoifaaGreatDoorZ27
import Derived.Test.YtlicffeicmoifaaGreatDoorZ22
import Derived.Test.YtlicffeicmoifaaGreatDoorZ21
import Derived.Test.YtlicffeicmoifaaGreatDoorZ26
import Derived.Test.YtlicffeicmoifaaGreatDoorZ28
set_option linter.unusedSimpArgs false
namespace Go.Proofs.YtlicffeicmoifaaGreatDoor
open Go.RowKit
set_option linter.unusedVariables false
theorem l00FromS_any (A : Option Addr) (n c : Nat) (w : World) (h : BytesR w w.heap.size A n) (hn : n ≤ 1048576) :
 Calls Tryz.prog 33 #[.slice A n c] w fun e w' => e = .returned (.pointer (some ⟨w.heap.size, 0, none⟩)) ∧ SrcR w' w.heap.size 0 ∧ Below w.heap.size w w' := by
 have H := Lib.hid h
 clear h
 go_enter Tryz.func33, Tryz.ntmps33
 go_wp2_with fail
 go_ret
 exact ⟨rfl, ⟨A, n, c, 0, 0, heap_last rfl, H.out.later (fun i hi => Below.heap_alloc _ _ _ hi), Nat.le_refl _, hn, by omega⟩, Below.new _ _⟩
theorem BytesR.laterS {w w' : World} {A : Option Addr} {n : Nat} (h : BytesR w w.heap.size A n) (hb : Below w.heap.size w w') : BytesR w' w'.heap.size A n := fun hn => by
 obtain ⟨b, o, e, hb1, hc⟩ := h hn
 refine ⟨b, o, e, Nat.lt_of_lt_of_le hb1 hb.size, fun j hj => ?_⟩
 obtain ⟨x, h1, h2⟩ := hc j hj
 exact ⟨x, cell_later hb h1, h2⟩
theorem NodesO.chgLow {P : Nat → Prop} {w w' : World} {base : Nat} {v : Value} {fs : List NodeD} (h : NodesO w base v fs) (k : Own.Chg P w w') (hP : ∀ g, P g → g < base) : NodesO w' base v fs := by
 obtain ⟨vs, h⟩ := h
 obtain ⟨h1, h2⟩ := Own.OwnL.inP h (P := fun g => ¬ P g) (fun g h1 _ hp => by have := hP g hp; omega)
 exact ⟨vs, Own.OwnL.chg h k h1 h2⟩
theorem cells_newG {w : World} {g t : Nat} {cs : Array Value} (hg : w.heap.size = g) : ∀ j u, cs.toList[j]? = some u → (w.alloc (.cells cs t)).cell? ((⟨g, 0, none⟩ : Addr).add j) = some u := by
 subst hg
 exact cells_newN w cs t
end Go.Proofs.YtlicffeicmoifaaGreatDoor
namespace Go.Proofs.YtlicffeicmoifaaGreatDoor
open Go.RowKit
set_option linter.unusedVariables false
set_option maxRecDepth 100000 in
set_option maxHeartbeats 4000000 in
theorem l25Change_any (c0 c1 c2 c3 c4 : Value) (d : EvD) (w : World) (h : EvR w w.heap.size c0 c1 c2 c3 c4 d) (hsm : d.subs.length ≤ 1048576) :
 Calls Tryz.prog 194 #[.agg #[c0, c1, c2, c3, c4]] w (ChgPost (chgOf d) w) := by
 obtain ⟨rfl, rfl, ⟨S, m, q, rfl, hs, hmq⟩, rfl, rfl⟩ := h
 have hm : m ≤ 1048576 := by rw [← hs.1]; exact hsm
 have HK := Lib.hid (fun W (hW : Below w.heap.size w W) => l24SubsO_any S m q d.subs W (hs.later hW) hm)
 have HR : Hid (chgOf d = ⟨if d.kind = 3 then 2 else 1, d.name, d.subs, d.val⟩) := rfl
 clear hs hsm
 generalize chgOf d = R at *
 generalize d.subs = ss at *
 generalize d.name = nm at *
 generalize d.val = vl at *
 generalize d.kind = kd at *
 generalize d.n = nn at *
 obtain ⟨WB, hWB⟩ : ∃ WB, WB = (w.alloc (.cells #[.int .i64 kd, .string nm, .slice S m q, .string vl, .int .i64 nn] 37)).alloc (.cells #[.int .i64 0, .string ⟨#[]⟩, .slice none 0 0, .string ⟨#[]⟩] 190) := ⟨_, rfl⟩
 have HB0 : Hid (Below w.heap.size w WB) := by subst hWB; exact (Below.new _ _).later (Below.new _ _)
 have HEE : Hid (Blk WB w.heap.size 37 #[.int .i64 kd, .string nm, .slice S m q, .string vl, .int .i64 nn]) := by subst hWB; exact heap_two0 _ _ _
 have HYY : Hid (Blk WB (w.heap.size + 1) 190 #[.int .i64 0, .string ⟨#[]⟩, .slice none 0 0, .string ⟨#[]⟩]) := by subst hWB; exact heap_two1 _ _ _
 have q1 := HEE.out.cell 1
 have q2 := HEE.out.cell 2
 have q3 := HEE.out.cell 3
 have hwb := HB0.out.size
 have hwe := HEE.out.lt
 have hwy := HYY.out.lt
 simp at q1 q2 q3
 go_enter Tryz.func194, Tryz.ntmps194
 by_cases hk : kd = 3
 · have HE : Hid (R = ⟨2, nm, ss, vl⟩) := by unfold Hid; rw [HR.out, if_pos hk]
   subst hk
   clear HR
   go_wp2_with fail
   rw [← hWB]
   clear hWB
   go_region_held3 (fun w' => w'.cell? ⟨w.heap.size, 1, none⟩ = some (.string nm) ∧ w'.cell? ⟨w.heap.size, 2, none⟩ = some (.slice S m q) ∧ w'.cell? ⟨w.heap.size, 3, none⟩ = some (.string vl))
    (first | with_reducible exact ⟨q1, q2, q3⟩ | exact ⟨cell_later HB1.out q1, cell_later HB1.out q2, cell_later HB1.out q3⟩ | go_keep)
    ((go_at_call 103
      refine (HK.out _ (by exact HB0.out.drew)).mono ?_
      rintro e w1 ⟨A1, q1x, rfl, _, ho1', hb1'⟩
      have HB1 := Lib.hid (undrew hb1')
      have HO1 := Lib.hid ho1'
      have HY1 := Lib.hid (HYY.out.later HB1.out HYY.out.lt)
      have yf0 := HY1.out.frozen 0
      have yf1 := HY1.out.frozen 1
      have yf2 := HY1.out.frozen 2
      have yf3 := HY1.out.frozen 3
      have yz := HY1.out.lt
      have y0 := HY1.out.cell 0
      have y1 := HY1.out.cell 1
      have y2 := HY1.out.cell 2
      have y3 := HY1.out.cell 3
      simp at y0 y1 y2 y3
      clear hb1' ho1'))
   go_wp2_with fail
   refine bodyPost_ret (v := .agg #[.int .i64 2, .string nm, .slice A1 m q1x, .string vl]) (by simp [results, Tryz.results194, go_sem, y0, y1, y2, y3]) rfl ?_
   refine ⟨_, by rw [HE.out], ?_, below_four (HB0.out.later HB1.out) (show w.heap.size ≤ w.heap.size + 1 by omega) _ _ _ _⟩
   rw [HE.out]
   exact sub_four (Own.own_base HO1.out (by simpa using HB0.out.size)) HY1.out (by decide) _ _ _ _
 · have HE : Hid (R = ⟨1, nm, ss, vl⟩) := by unfold Hid; rw [HR.out, if_neg hk]
   have hk1 : (kd == (3 : Int)) = false := beq_eq_false_iff_ne.2 hk
   clear hk HR
   go_wp2_with fail
   rw [← hWB]
   clear hWB
   go_region_held3 (fun w' => w'.cell? ⟨w.heap.size, 1, none⟩ = some (.string nm) ∧ w'.cell? ⟨w.heap.size, 2, none⟩ = some (.slice S m q) ∧ w'.cell? ⟨w.heap.size, 3, none⟩ = some (.string vl))
    (first | with_reducible exact ⟨q1, q2, q3⟩ | exact ⟨cell_later HB1.out q1, cell_later HB1.out q2, cell_later HB1.out q3⟩ | go_keep)
    ((go_at_call 103
      refine (HK.out _ (by exact HB0.out.drew)).mono ?_
      rintro e w1 ⟨A1, q1x, rfl, _, ho1', hb1'⟩
      have HB1 := Lib.hid (undrew hb1')
      have HO1 := Lib.hid ho1'
      have HY1 := Lib.hid (HYY.out.later HB1.out HYY.out.lt)
      have yf0 := HY1.out.frozen 0
      have yf1 := HY1.out.frozen 1
      have yf2 := HY1.out.frozen 2
      have yf3 := HY1.out.frozen 3
      have yz := HY1.out.lt
      have y0 := HY1.out.cell 0
      have y1 := HY1.out.cell 1
      have y2 := HY1.out.cell 2
      have y3 := HY1.out.cell 3
      simp at y0 y1 y2 y3
      clear hb1' ho1'))
   go_wp2_with fail
   refine bodyPost_ret (v := .agg #[.int .i64 1, .string nm, .slice A1 m q1x, .string vl]) (by simp [results, Tryz.results194, go_sem, y0, y1, y2, y3]) rfl ?_
   refine ⟨_, by rw [HE.out], ?_, below_four (HB0.out.later HB1.out) (show w.heap.size ≤ w.heap.size + 1 by omega) _ _ _ _⟩
   rw [HE.out]
   exact sub_four (Own.own_base HO1.out (by simpa using HB0.out.size)) HY1.out (by decide) _ _ _ _
set_option maxRecDepth 100000 in
set_option maxHeartbeats 4000000 in
theorem changeOf_any (c0 c1 c2 c3 c4 : Value) (d : EvD) (w : World) (h : EvR w w.heap.size c0 c1 c2 c3 c4 d) (hsm : d.subs.length ≤ 1048576) :
 Calls Tryz.prog 182 #[.agg #[c0, c1, c2, c3, c4]] w (ChgPost (chgOf d) w) := by
 obtain ⟨rfl, rfl, ⟨S, m, q, rfl, hs, hmq⟩, rfl, rfl⟩ := h
 have hm : m ≤ 1048576 := by rw [← hs.1]; exact hsm
 have HK := Lib.hid (fun W (hW : Below w.heap.size w W) => CloneS_any S m q d.subs W (hs.later hW) hm)
 have HR : Hid (chgOf d = ⟨if d.kind = 3 then 2 else 1, d.name, d.subs, d.val⟩) := rfl
 clear hs hsm
 generalize chgOf d = R at *
 generalize d.subs = ss at *
 generalize d.name = nm at *
 generalize d.val = vl at *
 generalize d.kind = kd at *
 generalize d.n = nn at *
 obtain ⟨WB, hWB⟩ : ∃ WB, WB = (w.alloc (.cells #[.int .i64 kd, .string nm, .slice S m q, .string vl, .int .i64 nn] 37)).alloc (.cells #[.int .i64 0, .string ⟨#[]⟩, .slice none 0 0, .string ⟨#[]⟩] 190) := ⟨_, rfl⟩
 have HB0 : Hid (Below w.heap.size w WB) := by subst hWB; exact (Below.new _ _).later (Below.new _ _)
 have HEE : Hid (Blk WB w.heap.size 37 #[.int .i64 kd, .string nm, .slice S m q, .string vl, .int .i64 nn]) := by subst hWB; exact heap_two0 _ _ _
 have HYY : Hid (Blk WB (w.heap.size + 1) 190 #[.int .i64 0, .string ⟨#[]⟩, .slice none 0 0, .string ⟨#[]⟩]) := by subst hWB; exact heap_two1 _ _ _
 have q1 := HEE.out.cell 1
 have q2 := HEE.out.cell 2
 have q3 := HEE.out.cell 3
 have hwb := HB0.out.size
 have hwe := HEE.out.lt
 have hwy := HYY.out.lt
 simp at q1 q2 q3
 go_enter Tryz.func182, Tryz.ntmps182
 by_cases hk : kd = 3
 · have HE : Hid (R = ⟨2, nm, ss, vl⟩) := by unfold Hid; rw [HR.out, if_pos hk]
   subst hk
   clear HR
   go_wp2_with fail
   rw [← hWB]
   clear hWB
   go_region_held3 (fun w' => w'.cell? ⟨w.heap.size, 1, none⟩ = some (.string nm) ∧ w'.cell? ⟨w.heap.size, 2, none⟩ = some (.slice S m q) ∧ w'.cell? ⟨w.heap.size, 3, none⟩ = some (.string vl))
    (first | with_reducible exact ⟨q1, q2, q3⟩ | exact ⟨cell_later HB1.out q1, cell_later HB1.out q2, cell_later HB1.out q3⟩ | go_keep)
    ((go_at_call 130
      refine (HK.out _ (by exact HB0.out.drew)).mono ?_
      rintro e w1 ⟨v1, rfl, ho1', hb1'⟩
      have HB1 := Lib.hid (undrew hb1')
      have HO1 := Lib.hid ho1'
      obtain ⟨A1, m1, q1x, rfl⟩ : ∃ A1 m1 q1x, v1 = .slice A1 m1 q1x := by obtain ⟨A, cap, e, _⟩ := Own.own_slice ho1'; exact ⟨A, _, cap, e⟩
      have HY1 := Lib.hid (HYY.out.later HB1.out HYY.out.lt)
      have yf0 := HY1.out.frozen 0
      have yf1 := HY1.out.frozen 1
      have yf2 := HY1.out.frozen 2
      have yf3 := HY1.out.frozen 3
      have yz := HY1.out.lt
      have y0 := HY1.out.cell 0
      have y1 := HY1.out.cell 1
      have y2 := HY1.out.cell 2
      have y3 := HY1.out.cell 3
      simp at y0 y1 y2 y3
      clear hb1' ho1'))
   go_wp2_with fail
   refine bodyPost_ret (v := .agg #[.int .i64 2, .string nm, .slice A1 m1 q1x, .string vl]) (by simp [results, Tryz.results182, go_sem, y0, y1, y2, y3]) rfl ?_
   refine ⟨_, by rw [HE.out], ?_, below_four (HB0.out.later HB1.out) (show w.heap.size ≤ w.heap.size + 1 by omega) _ _ _ _⟩
   rw [HE.out]
   exact sub_four (Own.own_base HO1.out (by simpa using HB0.out.size)) HY1.out (by decide) _ _ _ _
 · have HE : Hid (R = ⟨1, nm, ss, vl⟩) := by unfold Hid; rw [HR.out, if_neg hk]
   have hk1 : (kd == (3 : Int)) = false := beq_eq_false_iff_ne.2 hk
   clear hk HR
   go_wp2_with fail
   rw [← hWB]
   clear hWB
   go_region_held3 (fun w' => w'.cell? ⟨w.heap.size, 1, none⟩ = some (.string nm) ∧ w'.cell? ⟨w.heap.size, 2, none⟩ = some (.slice S m q) ∧ w'.cell? ⟨w.heap.size, 3, none⟩ = some (.string vl))
    (first | with_reducible exact ⟨q1, q2, q3⟩ | exact ⟨cell_later HB1.out q1, cell_later HB1.out q2, cell_later HB1.out q3⟩ | go_keep)
    ((go_at_call 130
      refine (HK.out _ (by exact HB0.out.drew)).mono ?_
      rintro e w1 ⟨v1, rfl, ho1', hb1'⟩
      have HB1 := Lib.hid (undrew hb1')
      have HO1 := Lib.hid ho1'
      obtain ⟨A1, m1, q1x, rfl⟩ : ∃ A1 m1 q1x, v1 = .slice A1 m1 q1x := by obtain ⟨A, cap, e, _⟩ := Own.own_slice ho1'; exact ⟨A, _, cap, e⟩
      have HY1 := Lib.hid (HYY.out.later HB1.out HYY.out.lt)
      have yf0 := HY1.out.frozen 0
      have yf1 := HY1.out.frozen 1
      have yf2 := HY1.out.frozen 2
      have yf3 := HY1.out.frozen 3
      have yz := HY1.out.lt
      have y0 := HY1.out.cell 0
      have y1 := HY1.out.cell 1
      have y2 := HY1.out.cell 2
      have y3 := HY1.out.cell 3
      simp at y0 y1 y2 y3
      clear hb1' ho1'))
   go_wp2_with fail
   refine bodyPost_ret (v := .agg #[.int .i64 1, .string nm, .slice A1 m1 q1x, .string vl]) (by simp [results, Tryz.results182, go_sem, y0, y1, y2, y3]) rfl ?_
   refine ⟨_, by rw [HE.out], ?_, below_four (HB0.out.later HB1.out) (show w.heap.size ≤ w.heap.size + 1 by omega) _ _ _ _⟩
   rw [HE.out]
   exact sub_four (Own.own_base HO1.out (by simpa using HB0.out.size)) HY1.out (by decide) _ _ _ _
end Go.Proofs.YtlicffeicmoifaaGreatDoor
namespace Go.Proofs.YtlicffeicmoifaaGreatDoor
open Go.RowKit
set_option linter.unusedVariables false
theorem cell_far2 {w : World} {a b : Addr} {u v : Value} (h : a.block ≠ b.block) (hc : w.cell? b = some v) : (w.setCell a u).cell? b = some v :=
 by rw [World.cell?_setCell_other]; exact hc; exact fun e => h (by rw [e])
theorem chgOf_small {d : EvD} (h : d.small) : (chgOf d).small := h
theorem chgR_of {w : World} {B : Nat} {A : Option Addr} {m c : Nat} {d : ChgD} (h : Own.SubO w B (.slice A m c) d.subs) (hB : True) : ChgR w w.heap.size (.int .i64 d.kind) (.string d.name) (.slice A m c) (.string d.val) d := by
 obtain ⟨A1, cap1, e1, hc1, hs1⟩ := h.strs
 cases e1
 exact ⟨rfl, rfl, ⟨A, _, c, rfl, hs1, hc1⟩, rfl⟩
theorem doOne_turn {fs : List NodeD} {e : EvD} (ht : treeB fs = true) (h : noteB e = true) (hk : turnsB e = true) : doOneB fs (chgOf e) = applyB fs e := by
 unfold doOneB applyB
 rw [ht, note_chg h hk, hk]
 rfl
set_option maxRecDepth 100000 in
set_option maxHeartbeats 4000000 in
theorem l25Turn_any (A : Option Addr) (n c : Nat) (fs : List NodeD) (c0 c1 c2 c3 c4 : Value) (d : EvD) (w : World) (hN : Nodes w w.heap.size A n fs) (hnc : n ≤ c) (hs : smallNs fs) (h : EvR w w.heap.size c0 c1 c2 c3 c4 d) (hsm : d.small) :
 Calls Tryz.prog 102 #[.agg #[.slice A n c], .agg #[c0, c1, c2, c3, c4]] w (TreePost (doOneB fs (chgOf d)) w) := by
 have HKC := Lib.hid (fun W (hW : Below w.heap.size w W) => l25Change_any c0 c1 c2 c3 c4 d W (h.later hW) hsm.2.1.1)
 have HKD := Lib.hid (fun d0 d1 d2 d3 W (hW : Below w.heap.size w W) (hr : ChgR W W.heap.size d0 d1 d2 d3 (chgOf d)) => DoChange_any A n c d0 d1 d2 d3 fs (chgOf d) W (hN.later hW) hnc hs hr (chgOf_small hsm))
 obtain ⟨rfl, rfl, ⟨S, m, q, rfl, _, _⟩, rfl, rfl⟩ := h
 clear hN hs hsm
 generalize doOneB fs (chgOf d) = PB at *
 generalize chgOf d = C at *
 generalize d.subs = ss at *
 generalize d.name = nm at *
 generalize d.val = vl at *
 generalize d.kind = kd at *
 generalize d.n = nn at *
 obtain ⟨WB, hWB⟩ : ∃ WB, WB = ((w.alloc (.cells #[.slice A n c] 26)).alloc (.cells #[.int .i64 kd, .string nm, .slice S m q, .string vl, .int .i64 nn] 37)).alloc (.cells #[.slice none 0 0] 26) := ⟨_, rfl⟩
 have HB0 : Hid (Below w.heap.size w WB) := by subst hWB; exact below_new3 w _ _ _
 have HTT : Hid (Blk WB w.heap.size 26 #[.slice A n c]) := by subst hWB; exact heap_new0 _ _ _ _
 have HEE : Hid (Blk WB (w.heap.size + 1) 37 #[.int .i64 kd, .string nm, .slice S m q, .string vl, .int .i64 nn]) := by subst hWB; exact heap_new1 _ _ _ _
 have HYY : Hid (Blk WB (w.heap.size + 1 + 1) 26 #[.slice none 0 0]) := by subst hWB; exact heap_new2 _ _ _ _
 have q0 := HEE.out.cell 0
 have q1 := HEE.out.cell 1
 have q2 := HEE.out.cell 2
 have q3 := HEE.out.cell 3
 have q4 := HEE.out.cell 4
 have q5 := HTT.out.cell 0
 have hwb := HB0.out.size
 have hwy := HYY.out.lt
 have hwe := HEE.out.lt
 have hwt := HTT.out.lt
 simp at q0 q1 q2 q3 q4 q5
 have HS : Hid (∀ W, Below WB.heap.size WB W → (W.cell? ⟨w.heap.size, 0, none⟩ = some (.slice A n c) ∧ W.cell? ⟨w.heap.size + 1, 0, none⟩ = some (.int .i64 kd) ∧ W.cell? ⟨w.heap.size + 1, 1, none⟩ = some (.string nm) ∧ W.cell? ⟨w.heap.size + 1, 2, none⟩ = some (.slice S m q) ∧ W.cell? ⟨w.heap.size + 1, 3, none⟩ = some (.string vl) ∧ W.cell? ⟨w.heap.size + 1, 4, none⟩ = some (.int .i64 nn))) := fun W hW => ⟨cell_later hW q5, cell_later hW q0, cell_later hW q1, cell_later hW q2, cell_later hW q3, cell_later hW q4⟩
 have hne0 : w.heap.size ≠ w.heap.size + 1 + 1 := by omega
 have hne1 : ¬ w.heap.size + 1 + 1 = w.heap.size := by omega
 have hne2 : ¬ w.heap.size = w.heap.size + 1 + 1 := by omega
 clear HEE HTT
 go_enter Tryz.func102, Tryz.ntmps102
 go_wp2_with fail
 rw [← hWB]
 clear hWB
 go_region_held3 (fun W => W.cell? ⟨w.heap.size, 0, none⟩ = some (.slice A n c) ∧ W.cell? ⟨w.heap.size + 1, 0, none⟩ = some (.int .i64 kd) ∧ W.cell? ⟨w.heap.size + 1, 1, none⟩ = some (.string nm) ∧ W.cell? ⟨w.heap.size + 1, 2, none⟩ = some (.slice S m q) ∧ W.cell? ⟨w.heap.size + 1, 3, none⟩ = some (.string vl) ∧ W.cell? ⟨w.heap.size + 1, 4, none⟩ = some (.int .i64 nn))
  (first | exact HS.out _ (Below.refl _ _).drew | exact HS.out _ HB1.out | exact HS.out _ HB2.out | (obtain ⟨z0, z1, z2, z3, z4, z5⟩ := HS.out _ HB2.out; exact ⟨cell_far2 (by simp; omega) z0, cell_far2 (by simp) z1, cell_far2 (by simp) z2, cell_far2 (by simp) z3, cell_far2 (by simp) z4, cell_far2 (by simp) z5⟩) | go_keep)
  (first
    | (go_at_call 194
       refine (HKC.out _ (by exact HB0.out.drew)).mono ?_
       rintro e w1 ⟨v1, rfl, ho1', hb1'⟩
       have HB1 := Lib.hid (undrew hb1')
       obtain ⟨A1, m1, q1x, rfl⟩ : ∃ A1 m1 q1x, v1 = .slice A1 m1 q1x := by obtain ⟨A, cap, e, _⟩ := Own.own_slice ho1'; exact ⟨A, _, cap, e⟩
       have HCR := Lib.hid (chgR_of ho1' trivial)
       clear hb1' ho1')
    | (go_at_call 193
       refine (HKD.out _ _ _ _ _ (HB0.out.later HB1.out) HCR.out).mono ?_
       rintro e w2 ⟨v2, rfl, hN2, hb2⟩
       have HB2 := Lib.hid (HB1.out.later hb2)
       obtain ⟨A2, cap2, rfl, _, _⟩ := hN2.reads
       have HN2 := Lib.hid (hN2.base (by have := HB1.out.size; omega : w.heap.size ≤ _))
       have HY2 := Lib.hid (HYY.out.later HB2.out HYY.out.lt)
       have y0 := HY2.out.cell 0
       have yf := HY2.out.frozen 0
       have yz := HY2.out.lt
       simp at y0
       clear hb2 hN2))
 go_wp2_with fail
 refine bodyPost_ret (v := .tuple #[.agg #[.slice A2 _ cap2], .int .i64 _]) (by simp [results, Tryz.results102, go_sem, y0]; try first | exact rfl | exact ⟨rfl, rfl⟩) rfl ?_
 exact ⟨_, rfl, HN2.out.setBlk HY2.out (by decide) (by decide), (HB0.out.later HB2.out).setCell (show w.heap.size ≤ w.heap.size + 1 + 1 by omega) _⟩
end Go.Proofs.YtlicffeicmoifaaGreatDoor
