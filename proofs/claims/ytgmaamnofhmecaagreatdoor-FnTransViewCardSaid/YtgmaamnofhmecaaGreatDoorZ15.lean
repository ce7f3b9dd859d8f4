import Derived.Test.YtgmaamnofhmecaaGreatDoorZ14
set_option linter.unusedSimpArgs false
namespace Go.Proofs.YtgmaamnofhmecaaGreatDoor
open Go.RowKit
set_option linter.unusedVariables false
set_option maxRecDepth 100000 in
set_option maxHeartbeats 2000000 in
theorem ChangeOk_any (c0 c1 c2 c3 : Value) (d : ChgD) (w : World) (h : ChgR w w.heap.size c0 c1 c2 c3 d) (hd : d.small) :
 Calls Tryz.prog 141 #[.agg #[c0, c1, c2, c3]] w fun e w' => e = .returned (.bool (changeB d)) ∧ Below w.heap.size w w' := by
 obtain ⟨rfl, rfl, ⟨S, m, q, rfl, hs, hmq⟩, rfl⟩ := h
 have hm : m ≤ 1048576 := by rw [← hs.1]; exact hd.2.1.1
 have HKP := Lib.hid (fun W (hW : Below w.heap.size w W) => l03Place_any d.name S m q d.subs W hd.1 (hs.later hW) hm hd.2.1.2)
 have HR : Hid (changeB d = (thingB d.name d.subs && ((decide (d.kind = 1) && decide (d.val.size ≤ 64)) || (decide (d.kind = 2) && decide (d.val = ⟨#[]⟩))))) := rfl
 have hvs := hd.2.2
 clear hs hd
 generalize changeB d = R at *
 generalize thingB d.name d.subs = t1 at *
 generalize d.name = nm at *
 generalize d.val = vl at *
 generalize d.kind = kd at *
 go_enter Tryz.func141, Tryz.ntmps141
 go_wp2_with fail
 refine (HKP.out _ (Below.new _ _)).mono ?_
 rintro e w2 ⟨rfl, rfl⟩
 cases t1
 · have HE : Hid (R = false) := by unfold Hid; rw [HR.out]; rfl
   go_wp2_with fail
   go_ret
   exact ⟨ret_bool (by first | exact HE.out.symm | (rw [HE.out]; first | (simp; done) | (simp; omega) | (rw [Bool.eq_iff_iff]; simp))), Below.new _ _⟩
 · by_cases h1 : kd = 1
   · subst h1
     by_cases h64 : vl.size ≤ 64
     · have HE : Hid (R = true) := by unfold Hid; rw [HR.out, decide_eq_true h64]; rfl
       have h64i : (vl.size : Int) ≤ 64 := by omega
       go_wp2_with fail
       go_ret
       exact ⟨ret_bool (by first | exact HE.out.symm | (rw [HE.out]; first | (simp; done) | (simp; omega) | (rw [Bool.eq_iff_iff]; simp))), Below.new _ _⟩
     · have HE : Hid (R = false) := by unfold Hid; rw [HR.out, decide_eq_false h64]; rfl
       have h64i : ¬ (vl.size : Int) ≤ 64 := by omega
       go_wp2_with fail
       go_ret
       exact ⟨ret_bool (by first | exact HE.out.symm | (rw [HE.out]; first | (simp; done) | (simp; omega) | (rw [Bool.eq_iff_iff]; simp))), Below.new _ _⟩
   · have hb1 : (kd == (1 : Int)) = false := by rw [beq_eq_false_iff_ne]; exact h1
     by_cases h2 : kd = 2
     · subst h2
       by_cases hv : vl = ⟨#[]⟩
       · subst hv
         have HE : Hid (R = true) := by unfold Hid; rw [HR.out]; rfl
         go_wp2_with fail
         go_ret
         exact ⟨ret_bool (by first | exact HE.out.symm | (rw [HE.out]; first | (simp; done) | (simp; omega) | (rw [Bool.eq_iff_iff]; simp))), Below.new _ _⟩
       · have HE : Hid (R = false) := by unfold Hid; rw [HR.out, decide_eq_false hv]; rfl
         have hbe := str_beq hv
         have hbe3 := ne_bytes (l := []) hv
         go_wp2_with fail
         go_ret
         exact ⟨ret_bool (by first | exact HE.out.symm | (rw [HE.out]; first | (simp; done) | (simp; omega) | (rw [Bool.eq_iff_iff]; simp))), Below.new _ _⟩
     · have HE : Hid (R = false) := by unfold Hid; rw [HR.out, decide_eq_false h1, decide_eq_false h2]; rfl
       have hb2 : (kd == (2 : Int)) = false := by rw [beq_eq_false_iff_ne]; exact h2
       go_wp2_with fail
       go_ret
       exact ⟨ret_bool (by first | exact HE.out.symm | (rw [HE.out]; first | (simp; done) | (simp; omega) | (rw [Bool.eq_iff_iff]; simp))), Below.new _ _⟩
theorem chg_node {d : ChgD} (h : d.small) : (⟨d.name, d.subs, d.val⟩ : NodeD).small := h
set_option maxRecDepth 100000 in
set_option maxHeartbeats 2000000 in
theorem l03Do_any (A : Option Addr) (n c : Nat) (c0 c1 c2 c3 : Value) (fs : List NodeD) (d : ChgD) (w : World) (h : Nodes w w.heap.size A n fs) (hnc : n ≤ c) (hs : smallNs fs) (hn : n < 1048576) (h' : ChgR w w.heap.size c0 c1 c2 c3 d) (hd : d.small) :
 Calls Tryz.prog 142 #[.agg #[.slice A n c], .agg #[c0, c1, c2, c3]] w (TreePost (doB fs d) w) := by
 obtain ⟨rfl, rfl, ⟨S, m, q, rfl, hst, hmq⟩, rfl⟩ := h'
 have hm : m ≤ 1048576 := by rw [← hst.1]; exact hd.2.1.1
 have HKU := Lib.hid (fun W (hW : Below w.heap.size w W) => l03Put_any A n c fs d.name S m q d.subs d.val W (h.later hW) hnc hs hn (hst.later hW) hmq (chg_node hd))
 have HKK := Lib.hid (fun W (hW : Below w.heap.size w W) => l03Kill_any A n c fs d.name S m q d.subs W (h.later hW) hs (hst.later hW) hm)
 have HB : Hid (doB fs d = if d.kind = 1 then putB fs d.name d.subs d.val else (0, killB fs d.name d.subs)) := rfl
 clear h hst hd hs
 generalize doB fs d = PB at *
 generalize putB fs d.name d.subs d.val = PU at *
 generalize killB fs d.name d.subs = KI at *
 generalize d.name = nm at *
 generalize d.val = vl at *
 generalize d.kind = kd at *
 have HB0 := Lib.hid (((Below.new w (.cells #[.slice A n c] 26)).later (Below.new _ (.cells #[.int .i64 kd, .string nm, .slice S m q, .string vl] 88))).later (Below.new _ (.cells #[.slice none 0 0] 26)))
 have HYY : Hid (Blk (((w.alloc (.cells #[.slice A n c] 26)).alloc (.cells #[.int .i64 kd, .string nm, .slice S m q, .string vl] 88)).alloc (.cells #[.slice none 0 0] 26)) (w.heap.size + 1 + 1) 26 #[.slice none 0 0]) := heap_new2 _ _ _ _
 go_enter Tryz.func142, Tryz.ntmps142
 by_cases h1 : kd = 1
 · subst h1
   have HE : Hid (PB = PU) := by unfold Hid; rw [HB.out]; rfl
   go_wp2_with fail
   refine (HKU.out _ HB0.out).mono ?_
   rintro e w5 ⟨v5, rfl, hN5, hb5⟩
   have HY5 := Lib.hid (HYY.out.later hb5 HYY.out.lt)
   have HB5 := Lib.hid (HB0.out.later hb5)
   obtain ⟨A5, cap5, rfl, _, _⟩ := hN5.reads
   have HN5 := Lib.hid (hN5.base HB0.out.size)
   have p5 := HY5.out.cell 0
   have f5 := HY5.out.frozen 0
   have z5 := HY5.out.lt
   simp at p5
   clear hb5 hN5
   go_wp2_with fail
   refine bodyPost_ret (v := .tuple #[.agg #[.slice A5 _ cap5], .int .i64 _]) (by simp [results, Tryz.results142, go_sem, p5]; try first | exact rfl | exact ⟨rfl, rfl⟩) rfl ?_
   exact ⟨_, by rw [HE.out], by rw [HE.out]; exact HN5.out.setBlk HY5.out (by decide) (by decide), HB5.out.setCell (show w.heap.size ≤ w.heap.size + 1 + 1 by omega) _⟩
 · have hb1 : (kd == (1 : Int)) = false := by rw [beq_eq_false_iff_ne]; exact h1
   have HE : Hid (PB = (0, KI)) := by unfold Hid; rw [HB.out, if_neg h1]
   go_wp2_with fail
   refine (HKK.out _ HB0.out).mono ?_
   rintro e w5 ⟨v5, rfl, hN5, hb5⟩
   have HY5 := Lib.hid (HYY.out.later hb5 HYY.out.lt)
   have HB5 := Lib.hid (HB0.out.later hb5)
   obtain ⟨A5, cap5, rfl, _, _⟩ := hN5.reads
   have HN5 := Lib.hid (hN5.base HB0.out.size)
   have p5 := HY5.out.cell 0
   have f5 := HY5.out.frozen 0
   have z5 := HY5.out.lt
   simp at p5
   clear hb5 hN5
   go_wp2_with fail
   refine bodyPost_ret (v := .tuple #[.agg #[.slice A5 _ cap5], .int .i64 0]) (by simp [results, Tryz.results142, go_sem, p5]; try first | exact rfl | exact ⟨rfl, rfl⟩) rfl ?_
   exact ⟨_, by rw [HE.out], by rw [HE.out]; exact HN5.out.setBlk HY5.out (by decide) (by decide), HB5.out.setCell (show w.heap.size ≤ w.heap.size + 1 + 1 by omega) _⟩
set_option maxRecDepth 100000 in
set_option maxHeartbeats 2000000 in
theorem DoChange_any (A : Option Addr) (n c : Nat) (c0 c1 c2 c3 : Value) (fs : List NodeD) (d : ChgD) (w : World) (h : Nodes w w.heap.size A n fs) (hnc : n ≤ c) (hs : smallNs fs) (h' : ChgR w w.heap.size c0 c1 c2 c3 d) (hd : d.small) :
 Calls Tryz.prog 66 #[.agg #[.slice A n c], .agg #[c0, c1, c2, c3]] w (TreePost (doOneB fs d) w) := by
 have HKT := Lib.hid (fun W (hW : Below w.heap.size w W) => specTreeOk_any A n c fs W (h.later hW) hs)
 have HKC := Lib.hid (fun W (hW : Below w.heap.size w W) => ChangeOk_any c0 c1 c2 c3 d W (h'.later hW) hd)
 have HKD := Lib.hid (fun W (hW : Below w.heap.size w W) (ht : treeB fs = true) => l03Do_any A n c c0 c1 c2 c3 fs d W (h.later hW) hnc hs (by have := treeB_len ht; rw [h.1] at this; omega) (h'.later hW) hd)
 have HB : Hid (doOneB fs d = if (treeB fs && changeB d) = true then doB fs d else (1, [])) := rfl
 obtain ⟨rfl, rfl, ⟨S, m, q, rfl, hst, hmq⟩, rfl⟩ := h'
 clear h hst hs hd
 generalize doOneB fs d = PB at *
 generalize doB fs d = PU at *
 generalize treeB fs = t0 at *
 generalize changeB d = t1 at *
 generalize d.name = nm at *
 generalize d.val = vl at *
 generalize d.kind = kd at *
 have HB0 := Lib.hid (((Below.new w (.cells #[.slice A n c] 26)).later (Below.new _ (.cells #[.int .i64 kd, .string nm, .slice S m q, .string vl] 88))).later (Below.new _ (.cells #[.slice none 0 0] 26)))
 have HYY : Hid (Blk (((w.alloc (.cells #[.slice A n c] 26)).alloc (.cells #[.int .i64 kd, .string nm, .slice S m q, .string vl] 88)).alloc (.cells #[.slice none 0 0] 26)) (w.heap.size + 1 + 1) 26 #[.slice none 0 0]) := heap_new2 _ _ _ _
 have HCC : Hid (Blk (((w.alloc (.cells #[.slice A n c] 26)).alloc (.cells #[.int .i64 kd, .string nm, .slice S m q, .string vl] 88)).alloc (.cells #[.slice none 0 0] 26)) (w.heap.size + 1) 88 #[.int .i64 kd, .string nm, .slice S m q, .string vl]) := heap_new1 _ _ _ _
 have HXX : Hid (Blk (((w.alloc (.cells #[.slice A n c] 26)).alloc (.cells #[.int .i64 kd, .string nm, .slice S m q, .string vl] 88)).alloc (.cells #[.slice none 0 0] 26)) w.heap.size 26 #[.slice A n c]) := heap_new0 _ _ _ _
 go_enter Tryz.func66, Tryz.ntmps66
 go_wp2_with fail
 refine (HKT.out _ HB0.out).mono ?_
 rintro e w1 ⟨rfl, hb1⟩
 have HB1 := Lib.hid (HB0.out.later hb1)
 have HX := Lib.hid (HXX.out.later hb1 HXX.out.lt)
 have HY := Lib.hid (HYY.out.later hb1 HYY.out.lt)
 have HC := Lib.hid (HCC.out.later hb1 HCC.out.lt)
 have px := HX.out.cell 0
 have py := HY.out.cell 0
 have fy := HY.out.frozen 0
 have zy := HY.out.lt
 have q0 := HC.out.cell 0
 have q1 := HC.out.cell 1
 have q2 := HC.out.cell 2
 have q3 := HC.out.cell 3
 simp at px py q0 q1 q2 q3
 clear hb1
 cases t0
 · have HE : Hid (PB = (1, [])) := by unfold Hid; rw [HB.out]; rfl
   go_wp2_with fail
   refine bodyPost_ret (v := .tuple #[.agg #[.slice none 0 0], .int .i64 1]) (by simp [results, Tryz.results66, go_sem, py]) rfl ?_
   exact ⟨_, by rw [HE.out], by rw [HE.out]; exact nodesO_nil _ _, HB1.out.setCell (show w.heap.size ≤ w.heap.size + 1 + 1 by omega) _⟩
 · go_wp2_with fail
   refine (HKC.out _ HB1.out).mono ?_
   rintro e w2 ⟨rfl, hb2⟩
   have HB2 := Lib.hid (HB1.out.later hb2)
   have HX2 := Lib.hid (HX.out.later hb2 HX.out.lt)
   have HY2 := Lib.hid (HY.out.later hb2 HY.out.lt)
   have HC2 := Lib.hid (HC.out.later hb2 HC.out.lt)
   clear px py fy zy q0 q1 q2 q3
   have px := HX2.out.cell 0
   have py := HY2.out.cell 0
   have fy := HY2.out.frozen 0
   have zy := HY2.out.lt
   have q0 := HC2.out.cell 0
   have q1 := HC2.out.cell 1
   have q2 := HC2.out.cell 2
   have q3 := HC2.out.cell 3
   simp at px py q0 q1 q2 q3
   clear hb2
   cases t1
   · have HE : Hid (PB = (1, [])) := by unfold Hid; rw [HB.out]; rfl
     go_wp2_with fail
     refine bodyPost_ret (v := .tuple #[.agg #[.slice none 0 0], .int .i64 1]) (by simp [results, Tryz.results66, go_sem, py]) rfl ?_
     exact ⟨_, by rw [HE.out], by rw [HE.out]; exact nodesO_nil _ _, HB2.out.setCell (show w.heap.size ≤ w.heap.size + 1 + 1 by omega) _⟩
   · have HE : Hid (PB = PU) := by unfold Hid; rw [HB.out]; rfl
     go_wp2_with fail
     refine (HKD.out _ HB2.out (by trivial)).mono ?_
     rintro e w5 ⟨v5, rfl, hN5, hb5⟩
     have HY5 := Lib.hid (HY2.out.later hb5 HY2.out.lt)
     have HB5 := Lib.hid (HB2.out.later hb5)
     obtain ⟨A5, cap5, rfl, _, _⟩ := hN5.reads
     have HN5 := Lib.hid (hN5.base HB2.out.size)
     clear px py fy zy q0 q1 q2 q3
     have p5 := HY5.out.cell 0
     have f5 := HY5.out.frozen 0
     have z5 := HY5.out.lt
     simp at p5
     clear hb5 hN5
     go_wp2_with fail
     refine bodyPost_ret (v := .tuple #[.agg #[.slice A5 _ cap5], .int .i64 _]) (by simp [results, Tryz.results66, go_sem, p5]; try first | exact rfl | exact ⟨rfl, rfl⟩) rfl ?_
     exact ⟨_, by rw [HE.out], by rw [HE.out]; exact HN5.out.setBlk HY5.out (by decide) (by decide), HB5.out.setCell (show w.heap.size ≤ w.heap.size + 1 + 1 by omega) _⟩
end Go.Proofs.YtgmaamnofhmecaaGreatDoor
namespace Go.Proofs.YtgmaamnofhmecaaGreatDoor
open Go.RowKit
set_option linter.unusedVariables false
theorem getD_memC (fs : List ChgD) (k : Nat) (h : k < fs.length) : fs.getD k default ∈ fs := by
 rw [List.getD_eq_getElem?_getD, List.getElem?_eq_getElem h]; simp
theorem drop_consC (cs : List ChgD) (k : Nat) (h : k < cs.length) : cs.drop k = cs.getD k default :: cs.drop (k + 1) := by
 rw [List.drop_eq_getElem_cons h, List.getD_eq_getElem?_getD, List.getElem?_eq_getElem h]; rfl
set_option maxRecDepth 100000 in
set_option maxHeartbeats 4000000 in
theorem DoChanges_any (A : Option Addr) (n c : Nat) (L : Option Addr) (m q : Nat) (fs : List NodeD) (cs : List ChgD) (w : World) (h : Nodes w w.heap.size A n fs) (hs : smallNs fs) (h' : Chgs w w.heap.size L m cs) (hm : m ≤ 1048576) (hd : ∀ d ∈ cs, d.small) :
 Calls Tryz.prog 16 #[.agg #[.slice A n c], .slice L m q] w (TreePost (doChangesB fs cs) w) := by
 have HKT := Lib.hid (fun W (hW : Below w.heap.size w W) => specTreeOk_any A n c fs W (h.later hW) hs)
 have HKO := Lib.hid (fun W (hW : Below w.heap.size w W) => l03Own_any A n c fs W (h.later hW) hs)
 have HLC := Lib.hid h'
 have HLL := Lib.hid h'.1
 have HSD := Lib.hid hd
 have HB : Hid (doChangesB fs cs = if treeB fs = true then (if 120 < m then (4, []) else doAllB fs cs) else (1, [])) := by unfold Hid doChangesB; rw [h'.1]
 have HT0 : Hid (treeB fs = treeB fs) := rfl
 clear h h' hs hd
 generalize doChangesB fs cs = PB at *
 generalize hT : treeB fs = t0 at *
 have HT := Lib.hid hT
 clear hT HT0
 go_enter Tryz.func16, Tryz.ntmps16
 go_wp2_with fail
 refine (HKT.out _ ((Below.new _ _).later (Below.new _ _))).mono ?_
 rintro e w1 ⟨rfl, hb1⟩
 have HB1 := Lib.hid (((Below.new w _).later (Below.new _ _)).later hb1)
 have HX := Lib.hid (Blk.later (heap_two0 w _ _) hb1 (by simp; omega))
 have HY := Lib.hid (Blk.later (heap_two1 w _ _) hb1 (by simp))
 have px := HX.out.cell 0
 have py := HY.out.cell 0
 have fy := HY.out.frozen 0
 have zy := HY.out.lt
 simp at px py
 clear hb1
 cases t0
 · have HE : Hid (PB = (1, [])) := by unfold Hid; rw [HB.out]; rfl
   go_wp2_with fail
   refine bodyPost_ret (v := .tuple #[.agg #[.slice none 0 0], .int .i64 1]) (by simp [results, Tryz.results16, go_sem, py]) rfl ?_
   exact ⟨_, by rw [HE.out], by rw [HE.out]; exact nodesO_nil _ _, HB1.out.setCell (show w.heap.size ≤ w.heap.size + 1 by omega) _⟩
 by_cases h120 : 120 < m
 · have HE : Hid (PB = (4, [])) := by unfold Hid; rw [HB.out, if_pos rfl, if_pos h120]
   go_wp2_with fail
   refine bodyPost_ret (v := .tuple #[.agg #[.slice none 0 0], .int .i64 4]) (by simp [results, Tryz.results16, go_sem, py]) rfl ?_
   exact ⟨_, by rw [HE.out], by rw [HE.out]; exact nodesO_nil _ _, HB1.out.setCell (show w.heap.size ≤ w.heap.size + 1 by omega) _⟩
 have HE : Hid (PB = doAllB fs cs) := by unfold Hid; rw [HB.out, if_pos rfl, if_neg h120]
 clear HB
 go_wp2_with fail
 refine (HKO.out _ HB1.out).mono ?_
 rintro e w2 ⟨v2, rfl, hN2, hb2⟩
 have HB2 := Lib.hid (HB1.out.later hb2)
 have HY2 := Lib.hid (HY.out.later hb2 HY.out.lt)
 have hw2 := HB2.out.size
 obtain ⟨A2, cap2, rfl, hcap2, _⟩ := hN2.reads
 have HN2 := Lib.hid (hN2.base HB1.out.size)
 clear px py fy zy hb2 hN2 HX HY HKT HKO
 have hz2 := HY2.out.lt
 have HBX := Lib.hid (Below.new w2 (.cells #[.slice A2 fs.length cap2] 26))
 go_wp2_with fail
 go_loopw [7] (fun i wr => ∃ (k : Nat) (v : Value) (gs : List NodeD), k ≤ m ∧ i = .int .i64 k ∧ Hid (Blk wr w2.heap.size 26 #[v]) ∧ Hid (Blk wr (w.heap.size + 1) 26 #[.slice none 0 0]) ∧ Hid (NodesO wr w.heap.size v gs) ∧ Hid (treeB gs = true) ∧ Hid (Below w.heap.size w wr) ∧ Hid (PB = doAllB gs (cs.drop k))) (fun i _ => m - (intOf i).toNat)
 case atStart => exact ⟨0, _, fs, Nat.zero_le _, rfl, heap_alloc_new w2 _, HY2.out.alloc _, HN2.out.later HBX.out, HT.out, HB2.out.later HBX.out, by unfold Hid; rw [List.drop_zero]; exact HE.out⟩
 case round =>
  obtain ⟨k, v, gs, hk, rfl, HV, HYR, HN, HTG, HBW, HPB⟩ := hrel
  obtain ⟨A3, cap3, rfl, hc3, hN3⟩ := HN.out.reads
  have pv := HV.out.cell 0
  have zv := HV.out.lt
  have fv := HV.out.frozen 0
  have py := HYR.out.cell 0
  have zy := HYR.out.lt
  have fy := HYR.out.frozen 0
  simp at pv py
  clear HBX HY2 HN2
  by_cases hlt : k < m
  · obtain ⟨bb, o, rfl, hbB, hc⟩ := (HLC.out.later HBW.out).2 (by omega)
    obtain ⟨c0, c1, c2, c3, k0, k1, k2, k3, hr⟩ := hc k hlt
    clear hc
    have hl : k < cs.length := by rw [HLL.out]; exact hlt
    have hsd := HSD.out _ (getD_memC cs k hl)
    have hda := drop_consC cs k hl
    generalize cs.getD k default = d at *
    have HKD := Lib.hid (fun W (hW : Below wr.heap.size wr W) => DoChange_any A3 gs.length cap3 c0 c1 c2 c3 gs d W (hN3.later hW) hc3 (tree_small HTG.out) (hr.later hW) hsd)
    have HDA : Hid (PB = if (doOneB gs d).1 = 0 then doAllB (doOneB gs d).2 (cs.drop (k + 1)) else ((doOneB gs d).1, [])) := by unfold Hid; rw [HPB.out, hda]; rfl
    have HDT : Hid ((doOneB gs d).1 = 0 → treeB (doOneB gs d).2 = true) := doOne_tree
    clear hda hsd
    generalize doOneB gs d = R at *
    obtain ⟨r1, r2⟩ := R
    obtain ⟨rfl, rfl, ⟨S, m1, q1, rfl, _, _⟩, rfl⟩ := hr
    have hxx : w2.heap.size ≠ w.heap.size + 1 := by omega
    go_wp2_with fail
    go_region_law (first
     | (go_simp
        go_at_call 66
        refine (HKD.out _ (by exact (Below.refl _ _).drew)).mono ?_
        rintro e w4 ⟨v4, rfl, hN4, hb4'⟩
        have hb4 := undrew hb4'
        obtain ⟨A4, cap4, rfl, hcap4, _⟩ := hN4.reads
        have HW := Lib.hid (Below.new w4 (.cells #[.slice A4 r2.length cap4] 26))
        have H8X : Hid (Blk (w4.alloc (.cells #[.slice A4 r2.length cap4] 26)) w4.heap.size 26 #[.slice A4 r2.length cap4]) := heap_alloc_new _ _
        have HVX := Lib.hid ((HV.out.later hb4 HV.out.lt).alloc (.cells #[.slice A4 r2.length cap4] 26))
        have HYX := Lib.hid ((HYR.out.later hb4 HYR.out.lt).alloc (.cells #[.slice A4 r2.length cap4] 26))
        have HNX : Hid (NodesO (w4.alloc (.cells #[.slice A4 r2.length cap4] 26)) w.heap.size (.slice A4 r2.length cap4) r2) := (hN4.base HBW.out.size).later HW.out
        have HBX := Lib.hid ((HBW.out.later hb4).later HW.out)
        have z8 := H8X.out.lt
        clear hb4 hb4' hN4)
     | (go_simp
        go_at_call 66
        refine (HKD.out _ (by exact (Below.new _ _).drew)).mono ?_
        rintro e w4 ⟨v4, rfl, hN4, hb4'⟩
        have hb4 := undrew hb4'
        obtain ⟨A4, cap4, rfl, hcap4, _⟩ := hN4.reads
        have h8 : Blk w4 wr.heap.size 26 #[.slice none 0 0] := Blk.later (heap_alloc_new wr _) hb4 (by simp)
        have p8 := h8.cell 0
        have f8 := h8.frozen 0
        have z8 := h8.lt
        simp at p8
        have hbW := (Below.new wr (.cells #[.slice none 0 0] 26)).later hb4
        have H8X : Hid (Blk (w4.setCell ⟨wr.heap.size, 0, none⟩ (.slice A4 r2.length cap4)) wr.heap.size 26 #[.slice A4 r2.length cap4]) := h8.set_ 0 _
        have HVX := Lib.hid ((HV.out.later hbW HV.out.lt).far (p := ⟨wr.heap.size, 0, none⟩) (show w2.heap.size ≠ wr.heap.size by omega) (.slice A4 r2.length cap4))
        have HYX := Lib.hid ((HYR.out.later hbW HYR.out.lt).far (p := ⟨wr.heap.size, 0, none⟩) (show w.heap.size + 1 ≠ wr.heap.size by omega) (.slice A4 r2.length cap4))
        have HNX : Hid (NodesO (w4.setCell ⟨wr.heap.size, 0, none⟩ (.slice A4 r2.length cap4)) w.heap.size (.slice A4 r2.length cap4) r2) := (hN4.base (by have := HBW.out.size; simp; omega)).setBlk h8 (by decide) (by decide)
        have HBX := Lib.hid ((HBW.out.later hbW).setCell (p := ⟨wr.heap.size, 0, none⟩) HBW.out.size (.slice A4 r2.length cap4))
        clear hb4 hb4' hN4 h8 hbW))
    all_goals
     have p8 := H8X.out.cell 0
     have z8 := H8X.out.lt
     have pv := HVX.out.cell 0
     have fv := HVX.out.frozen 0
     have zv := HVX.out.lt
     have py := HYX.out.cell 0
     have fy := HYX.out.frozen 0
     have zy := HYX.out.lt
     simp at p8 pv py
     by_cases hr0 : r1 = 0
     · have HE2 : Hid (PB = doAllB r2 (cs.drop (k + 1))) := by unfold Hid; rw [HDA.out, if_pos hr0]
       have HT2 := Lib.hid (HDT.out hr0)
       subst hr0
       go_wp2_with fail
       go_roundw
       case rel =>
        exact ⟨k + 1, _, r2, by omega, by go_num, HVX.out.set_ 0 _, HYX.out.far (show w.heap.size + 1 ≠ w2.heap.size by omega) _, HNX.out.setBlk HVX.out (by decide) (by decide), HT2.out, HBX.out.setCell (show w.heap.size ≤ w2.heap.size by omega) _, HE2.out⟩
       case measure => simp [intOf]; omega
     · have HE2 : Hid (PB = (r1, [])) := by unfold Hid; rw [HDA.out, if_neg hr0]
       have hb0 : (r1 == (0 : Int)) = false := by rw [beq_eq_false_iff_ne]; exact hr0
       go_wp2_with fail
       refine bodyPost_ret (v := .tuple #[.agg #[.slice none 0 0], .int .i64 r1]) (by simp [results, Tryz.results16, go_sem, py]) rfl ?_
       exact ⟨_, by rw [HE2.out], by rw [HE2.out]; exact nodesO_nil _ _, HBX.out.setCell (show w.heap.size ≤ w.heap.size + 1 by omega) _⟩
  · obtain rfl : k = m := by omega
    have HE2 : Hid (PB = (0, gs)) := by unfold Hid; rw [HPB.out, List.drop_of_length_le (by rw [HLL.out]; omega)]; rfl
    have hxx : w2.heap.size ≠ w.heap.size + 1 := by omega
    go_wp2_with fail
    refine bodyPost_ret (v := .tuple #[.agg #[.slice A3 _ cap3], .int .i64 0]) (by simp [results, Tryz.results16, go_sem, py]; try first | exact rfl | exact ⟨rfl, rfl⟩) rfl ?_
    exact ⟨_, by rw [HE2.out], by rw [HE2.out]; exact HN.out.setBlk HYR.out (by decide) (by decide), HBW.out.setCell (show w.heap.size ≤ w.heap.size + 1 by omega) _⟩
end Go.Proofs.YtgmaamnofhmecaaGreatDoor
