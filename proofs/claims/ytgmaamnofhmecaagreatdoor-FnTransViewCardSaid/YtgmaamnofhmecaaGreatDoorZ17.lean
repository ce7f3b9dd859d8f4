import Derived.Test.YtgmaamnofhmecaaGreatDoorZ16
import Derived.Test.YtgmaamnofhmecaaGreatDoorZ15
set_option linter.unusedSimpArgs false
namespace Go.Proofs.YtgmaamnofhmecaaGreatDoor
open Go.RowKit
set_option linter.unusedVariables false
def ChgPost (d : ChgD) (w : World) (e : Ending) (w' : World) : Prop := ∃ v, e = .returned (.agg #[.int .i64 d.kind, .string d.name, v, .string d.val]) ∧ Own.SubO w' w.heap.size v d.subs ∧ Below w.heap.size w w'
theorem sub_lit2 {Z : World} {bs g n : Nat} (ss : List ByteArray) (cs : Array Value) (hg : Z.heap.size = g) (hb : bs ≤ g) (hn : ss.length = n) (hm : n ≤ 1048576) (h : cs = strArr ss) : Own.SubO (Z.alloc (.cells cs 9)) bs (.slice (some ⟨g, 0, none⟩) n n) ss := by
 subst hg hn
 exact sub_lit ss cs hb hm h
theorem sub_later {w w' : World} {bs : Nat} {v : Value} {ss : List ByteArray} (h : Own.SubO w bs v ss) (hb : Below w.heap.size w w') : Own.SubO w' bs v ss := Own.own_later h hb
theorem sub_four {w : World} {bs g t : Nat} {v : Value} {ss : List ByteArray} {a0 a1 a2 a3 : Value} (h : Own.SubO w bs v ss) (hB : Blk w g t #[a0, a1, a2, a3]) (ht : 9 ≠ t) (x0 x1 x2 x3 : Value) : Own.SubO ((((w.setCell ⟨g, 0, none⟩ x0).setCell ⟨g, 1, none⟩ x1).setCell ⟨g, 2, none⟩ x2).setCell ⟨g, 3, none⟩ x3) bs v ss :=
 (((h.setBlk hB ht).setBlk (hB.set_ 0 x0) ht).setBlk ((hB.set_ 0 x0).set_ 1 x1) ht).setBlk (((hB.set_ 0 x0).set_ 1 x1).set_ 2 x2) ht
theorem below_four {a w : World} {B g : Nat} (h : Below B a w) (hg : B ≤ g) (x0 x1 x2 x3 : Value) : Below B a ((((w.setCell ⟨g, 0, none⟩ x0).setCell ⟨g, 1, none⟩ x1).setCell ⟨g, 2, none⟩ x2).setCell ⟨g, 3, none⟩ x3) :=
 (((h.setCell (p := ⟨g, 0, none⟩) hg _).setCell (p := ⟨g, 1, none⟩) hg _).setCell (p := ⟨g, 2, none⟩) hg _).setCell (p := ⟨g, 3, none⟩) hg _
end Go.Proofs.YtgmaamnofhmecaaGreatDoor
namespace Go.Proofs.YtgmaamnofhmecaaGreatDoor
open Go.RowKit
set_option linter.unusedVariables false
set_option maxRecDepth 100000 in
set_option maxHeartbeats 4000000 in
theorem l25Change_any (c0 c1 c2 c3 c4 : Value) (d : EvD) (w : World) (h : EvR w w.heap.size c0 c1 c2 c3 c4 d) (hsm : d.subs.length ≤ 1048576) :
 Calls Tryz.prog 156 #[.agg #[c0, c1, c2, c3, c4]] w (ChgPost (chgOf d) w) := by
 obtain ⟨rfl, rfl, ⟨S, m, q, rfl, hs, hmq⟩, rfl, rfl⟩ := h
 have hm : m ≤ 1048576 := by rw [← hs.1]; exact hsm
 have HK := Lib.hid (fun W (hW : Below w.heap.size w W) => l24SubsO_any S m q d.subs W (hs.later hW) hm)
 have HR : Hid (chgOf d = ⟨if d.kind = 3 then 2 else 1, d.name, d.subs, d.val⟩) := rfl
 clear hs hsm
 generalize chgOf d = R at *
 generalize d.subs = ss at *
 generalize d.name = nm at *
 generalize d.val = vl at *
 generalize d.kind = kd at *
 generalize d.n = nn at *
 obtain ⟨WB, hWB⟩ : ∃ WB, WB = (w.alloc (.cells #[.int .i64 kd, .string nm, .slice S m q, .string vl, .int .i64 nn] 55)).alloc (.cells #[.int .i64 0, .string ⟨#[]⟩, .slice none 0 0, .string ⟨#[]⟩] 88) := ⟨_, rfl⟩
 have HB0 : Hid (Below w.heap.size w WB) := by subst hWB; exact (Below.new _ _).later (Below.new _ _)
 have HEE : Hid (Blk WB w.heap.size 55 #[.int .i64 kd, .string nm, .slice S m q, .string vl, .int .i64 nn]) := by subst hWB; exact heap_two0 _ _ _
 have HYY : Hid (Blk WB (w.heap.size + 1) 88 #[.int .i64 0, .string ⟨#[]⟩, .slice none 0 0, .string ⟨#[]⟩]) := by subst hWB; exact heap_two1 _ _ _
 have q1 := HEE.out.cell 1
 have q2 := HEE.out.cell 2
 have q3 := HEE.out.cell 3
 have hwb := HB0.out.size
 have hwe := HEE.out.lt
 have hwy := HYY.out.lt
 simp at q1 q2 q3
 go_enter Tryz.func156, Tryz.ntmps156
 by_cases hk : kd = 3
 · have HE : Hid (R = ⟨2, nm, ss, vl⟩) := by unfold Hid; rw [HR.out, if_pos hk]
   subst hk
   clear HR
   go_wp2_with fail
   rw [← hWB]
   clear hWB
   go_region_held3 (fun w' => w'.cell? ⟨w.heap.size, 1, none⟩ = some (.string nm) ∧ w'.cell? ⟨w.heap.size, 2, none⟩ = some (.slice S m q) ∧ w'.cell? ⟨w.heap.size, 3, none⟩ = some (.string vl))
    (first | with_reducible exact ⟨q1, q2, q3⟩ | exact ⟨cell_later HB1.out q1, cell_later HB1.out q2, cell_later HB1.out q3⟩ | go_keep)
    ((go_at_call 159
      refine (HK.out _ (by exact HB0.out.drew)).mono ?_
      rintro e w1 ⟨A1, q1x, rfl, _, ho1', hb1'⟩
      have HB1 := Lib.hid (undrew hb1')
      have HO1 := Lib.hid ho1'
      have HY1 := Lib.hid (HYY.out.later HB1.out HYY.out.lt)
      have yf0 := HY1.out.frozen 0
      have yf1 := HY1.out.frozen 1
      have yf2 := HY1.out.frozen 2
      have yf3 := HY1.out.frozen 3
      have yz := HY1.out.lt
      have y0 := HY1.out.cell 0
      have y1 := HY1.out.cell 1
      have y2 := HY1.out.cell 2
      have y3 := HY1.out.cell 3
      simp at y0 y1 y2 y3
      clear hb1' ho1'))
   go_wp2_with fail
   refine bodyPost_ret (v := .agg #[.int .i64 2, .string nm, .slice A1 m q1x, .string vl]) (by simp [results, Tryz.results156, go_sem, y0, y1, y2, y3]) rfl ?_
   refine ⟨_, by rw [HE.out], ?_, below_four (HB0.out.later HB1.out) (show w.heap.size ≤ w.heap.size + 1 by omega) _ _ _ _⟩
   rw [HE.out]
   exact sub_four (Own.own_base HO1.out (by simpa using HB0.out.size)) HY1.out (by decide) _ _ _ _
 · have HE : Hid (R = ⟨1, nm, ss, vl⟩) := by unfold Hid; rw [HR.out, if_neg hk]
   have hk1 : (kd == (3 : Int)) = false := beq_eq_false_iff_ne.2 hk
   clear hk HR
   go_wp2_with fail
   rw [← hWB]
   clear hWB
   go_region_held3 (fun w' => w'.cell? ⟨w.heap.size, 1, none⟩ = some (.string nm) ∧ w'.cell? ⟨w.heap.size, 2, none⟩ = some (.slice S m q) ∧ w'.cell? ⟨w.heap.size, 3, none⟩ = some (.string vl))
    (first | with_reducible exact ⟨q1, q2, q3⟩ | exact ⟨cell_later HB1.out q1, cell_later HB1.out q2, cell_later HB1.out q3⟩ | go_keep)
    ((go_at_call 159
      refine (HK.out _ (by exact HB0.out.drew)).mono ?_
      rintro e w1 ⟨A1, q1x, rfl, _, ho1', hb1'⟩
      have HB1 := Lib.hid (undrew hb1')
      have HO1 := Lib.hid ho1'
      have HY1 := Lib.hid (HYY.out.later HB1.out HYY.out.lt)
      have yf0 := HY1.out.frozen 0
      have yf1 := HY1.out.frozen 1
      have yf2 := HY1.out.frozen 2
      have yf3 := HY1.out.frozen 3
      have yz := HY1.out.lt
      have y0 := HY1.out.cell 0
      have y1 := HY1.out.cell 1
      have y2 := HY1.out.cell 2
      have y3 := HY1.out.cell 3
      simp at y0 y1 y2 y3
      clear hb1' ho1'))
   go_wp2_with fail
   refine bodyPost_ret (v := .agg #[.int .i64 1, .string nm, .slice A1 m q1x, .string vl]) (by simp [results, Tryz.results156, go_sem, y0, y1, y2, y3]) rfl ?_
   refine ⟨_, by rw [HE.out], ?_, below_four (HB0.out.later HB1.out) (show w.heap.size ≤ w.heap.size + 1 by omega) _ _ _ _⟩
   rw [HE.out]
   exact sub_four (Own.own_base HO1.out (by simpa using HB0.out.size)) HY1.out (by decide) _ _ _ _
set_option maxRecDepth 100000 in
set_option maxHeartbeats 4000000 in
theorem changeOf_any (c0 c1 c2 c3 c4 : Value) (d : EvD) (w : World) (h : EvR w w.heap.size c0 c1 c2 c3 c4 d) (hsm : d.subs.length ≤ 1048576) :
 Calls Tryz.prog 158 #[.agg #[c0, c1, c2, c3, c4]] w (ChgPost (chgOf d) w) := by
 obtain ⟨rfl, rfl, ⟨S, m, q, rfl, hs, hmq⟩, rfl, rfl⟩ := h
 have hm : m ≤ 1048576 := by rw [← hs.1]; exact hsm
 have HK := Lib.hid (fun W (hW : Below w.heap.size w W) => CloneS_any S m q d.subs W (hs.later hW) hm)
 have HR : Hid (chgOf d = ⟨if d.kind = 3 then 2 else 1, d.name, d.subs, d.val⟩) := rfl
 clear hs hsm
 generalize chgOf d = R at *
 generalize d.subs = ss at *
 generalize d.name = nm at *
 generalize d.val = vl at *
 generalize d.kind = kd at *
 generalize d.n = nn at *
 obtain ⟨WB, hWB⟩ : ∃ WB, WB = (w.alloc (.cells #[.int .i64 kd, .string nm, .slice S m q, .string vl, .int .i64 nn] 55)).alloc (.cells #[.int .i64 0, .string ⟨#[]⟩, .slice none 0 0, .string ⟨#[]⟩] 88) := ⟨_, rfl⟩
 have HB0 : Hid (Below w.heap.size w WB) := by subst hWB; exact (Below.new _ _).later (Below.new _ _)
 have HEE : Hid (Blk WB w.heap.size 55 #[.int .i64 kd, .string nm, .slice S m q, .string vl, .int .i64 nn]) := by subst hWB; exact heap_two0 _ _ _
 have HYY : Hid (Blk WB (w.heap.size + 1) 88 #[.int .i64 0, .string ⟨#[]⟩, .slice none 0 0, .string ⟨#[]⟩]) := by subst hWB; exact heap_two1 _ _ _
 have q1 := HEE.out.cell 1
 have q2 := HEE.out.cell 2
 have q3 := HEE.out.cell 3
 have hwb := HB0.out.size
 have hwe := HEE.out.lt
 have hwy := HYY.out.lt
 simp at q1 q2 q3
 go_enter Tryz.func158, Tryz.ntmps158
 by_cases hk : kd = 3
 · have HE : Hid (R = ⟨2, nm, ss, vl⟩) := by unfold Hid; rw [HR.out, if_pos hk]
   subst hk
   clear HR
   go_wp2_with fail
   rw [← hWB]
   clear hWB
   go_region_held3 (fun w' => w'.cell? ⟨w.heap.size, 1, none⟩ = some (.string nm) ∧ w'.cell? ⟨w.heap.size, 2, none⟩ = some (.slice S m q) ∧ w'.cell? ⟨w.heap.size, 3, none⟩ = some (.string vl))
    (first | with_reducible exact ⟨q1, q2, q3⟩ | exact ⟨cell_later HB1.out q1, cell_later HB1.out q2, cell_later HB1.out q3⟩ | go_keep)
    ((go_at_call 169
      refine (HK.out _ (by exact HB0.out.drew)).mono ?_
      rintro e w1 ⟨v1, rfl, ho1', hb1'⟩
      have HB1 := Lib.hid (undrew hb1')
      have HO1 := Lib.hid ho1'
      obtain ⟨A1, m1, q1x, rfl⟩ : ∃ A1 m1 q1x, v1 = .slice A1 m1 q1x := by obtain ⟨A, cap, e, _⟩ := Own.own_slice ho1'; exact ⟨A, _, cap, e⟩
      have HY1 := Lib.hid (HYY.out.later HB1.out HYY.out.lt)
      have yf0 := HY1.out.frozen 0
      have yf1 := HY1.out.frozen 1
      have yf2 := HY1.out.frozen 2
      have yf3 := HY1.out.frozen 3
      have yz := HY1.out.lt
      have y0 := HY1.out.cell 0
      have y1 := HY1.out.cell 1
      have y2 := HY1.out.cell 2
      have y3 := HY1.out.cell 3
      simp at y0 y1 y2 y3
      clear hb1' ho1'))
   go_wp2_with fail
   refine bodyPost_ret (v := .agg #[.int .i64 2, .string nm, .slice A1 m1 q1x, .string vl]) (by simp [results, Tryz.results158, go_sem, y0, y1, y2, y3]) rfl ?_
   refine ⟨_, by rw [HE.out], ?_, below_four (HB0.out.later HB1.out) (show w.heap.size ≤ w.heap.size + 1 by omega) _ _ _ _⟩
   rw [HE.out]
   exact sub_four (Own.own_base HO1.out (by simpa using HB0.out.size)) HY1.out (by decide) _ _ _ _
 · have HE : Hid (R = ⟨1, nm, ss, vl⟩) := by unfold Hid; rw [HR.out, if_neg hk]
   have hk1 : (kd == (3 : Int)) = false := beq_eq_false_iff_ne.2 hk
   clear hk HR
   go_wp2_with fail
   rw [← hWB]
   clear hWB
   go_region_held3 (fun w' => w'.cell? ⟨w.heap.size, 1, none⟩ = some (.string nm) ∧ w'.cell? ⟨w.heap.size, 2, none⟩ = some (.slice S m q) ∧ w'.cell? ⟨w.heap.size, 3, none⟩ = some (.string vl))
    (first | with_reducible exact ⟨q1, q2, q3⟩ | exact ⟨cell_later HB1.out q1, cell_later HB1.out q2, cell_later HB1.out q3⟩ | go_keep)
    ((go_at_call 169
      refine (HK.out _ (by exact HB0.out.drew)).mono ?_
      rintro e w1 ⟨v1, rfl, ho1', hb1'⟩
      have HB1 := Lib.hid (undrew hb1')
      have HO1 := Lib.hid ho1'
      obtain ⟨A1, m1, q1x, rfl⟩ : ∃ A1 m1 q1x, v1 = .slice A1 m1 q1x := by obtain ⟨A, cap, e, _⟩ := Own.own_slice ho1'; exact ⟨A, _, cap, e⟩
      have HY1 := Lib.hid (HYY.out.later HB1.out HYY.out.lt)
      have yf0 := HY1.out.frozen 0
      have yf1 := HY1.out.frozen 1
      have yf2 := HY1.out.frozen 2
      have yf3 := HY1.out.frozen 3
      have yz := HY1.out.lt
      have y0 := HY1.out.cell 0
      have y1 := HY1.out.cell 1
      have y2 := HY1.out.cell 2
      have y3 := HY1.out.cell 3
      simp at y0 y1 y2 y3
      clear hb1' ho1'))
   go_wp2_with fail
   refine bodyPost_ret (v := .agg #[.int .i64 1, .string nm, .slice A1 m1 q1x, .string vl]) (by simp [results, Tryz.results158, go_sem, y0, y1, y2, y3]) rfl ?_
   refine ⟨_, by rw [HE.out], ?_, below_four (HB0.out.later HB1.out) (show w.heap.size ≤ w.heap.size + 1 by omega) _ _ _ _⟩
   rw [HE.out]
   exact sub_four (Own.own_base HO1.out (by simpa using HB0.out.size)) HY1.out (by decide) _ _ _ _
end Go.Proofs.YtgmaamnofhmecaaGreatDoor
