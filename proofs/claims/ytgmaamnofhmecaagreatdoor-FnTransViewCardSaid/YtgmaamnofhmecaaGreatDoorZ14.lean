import Derived.Test.YtgmaamnofhmecaaGreatDoorZ13
set_option linter.unusedSimpArgs false
namespace Go.Proofs.YtgmaamnofhmecaaGreatDoor
open Go.RowKit
set_option linter.unusedVariables false
theorem NodesO.setBlk {w : World} {base g tp i : Nat} {v u : Value} {fs : List NodeD} {cs : Array Value} (h : NodesO w base v fs) (hB : Blk w g tp cs) (h1 : 102 ≠ tp) (h2 : 9 ≠ tp) : NodesO (w.setCell ⟨g, i, none⟩ u) base v fs := by
 obtain ⟨vs, h⟩ := h
 exact ⟨vs, h.grownOther hB h1 h2 (Own.grown_set _ _ _ _)⟩
theorem put_small {fs : List NodeD} {nm : ByteArray} {ss : List ByteArray} {v : ByteArray} (h : smallNs fs) (h1 : fs.length < 1048576) (h2 : (⟨nm, ss, v⟩ : NodeD).small) : smallNs (putN fs nm ss v) := by
 refine ⟨?_, fun d hd => ?_⟩
 · unfold putN
   rw [List.length_append, List.length_cons, List.length_take, List.length_drop]
   have := atN_le fs nm ss
   split <;> omega
 · unfold putN at hd
   rcases List.mem_append.1 hd with h3 | h3
   · exact h.2 d (List.mem_of_mem_take h3)
   · rcases List.mem_cons.1 h3 with h4 | h4
     · subst h4; exact h2
     · exact h.2 d (List.mem_of_mem_drop h4)
theorem has_lt {fs : List NodeD} {nm : ByteArray} {ss : List ByteArray} (h : hasN fs nm ss = true) : atN fs nm ss < fs.length := by
 unfold hasN at h
 rw [Bool.and_eq_true] at h
 exact of_decide_eq_true h.1
theorem reads_take {w : World} {B sz n k : Nat} {A : Option Addr} {xs : List Value} (h : Reads w B sz A n xs) (hk : k ≤ n) : Reads w B sz A k (xs.take (k * sz)) := by
 have hm : k * sz ≤ n * sz := Nat.mul_le_mul_right _ hk
 refine ⟨by rw [List.length_take, h.1]; omega, fun h0 => ?_⟩
 obtain ⟨ad, e, hb, hc⟩ := h.2 (by omega)
 refine ⟨ad, e, hb, fun j u hu => hc j u ?_⟩
 rw [List.getElem?_take] at hu
 split at hu
 · exact hu
 · cases hu
set_option maxRecDepth 100000 in
set_option maxHeartbeats 4000000 in
theorem l03Put_any (A : Option Addr) (n c : Nat) (fs : List NodeD) (nm : ByteArray) (S : Option Addr) (m q : Nat) (ss : List ByteArray) (v : ByteArray) (w : World) (h : Nodes w w.heap.size A n fs) (hnc : n ≤ c) (hs : smallNs fs) (hn : n < 1048576) (h' : Strs w w.heap.size S m ss) (hmq : m ≤ q) (hd : (⟨nm, ss, v⟩ : NodeD).small) :
 Calls Tryz.prog 187 #[.agg #[.slice A n c], .string nm, .slice S m q, .string v] w (TreePost (putB fs nm ss v) w) := by
 obtain ⟨i0, hi, hz0, hz1, hz2⟩ := info_parts infoNodeD
 have hm : m ≤ 1048576 := by rw [← h'.1]; exact hd.2.1.1
 have HKA := Lib.hid (fun W (hW : Below w.heap.size w W) => l03At_any A n c fs nm S m q ss W (h.later hW) hs (h'.later hW) hm hd.2.1.2)
 have HSM := Lib.hid (put_small (v := v) hs (by rw [h.1]; exact hn) hd)
 have HB : Hid (putB fs nm ss v = if (!hasN fs nm ss && decide (120 ≤ n)) = true then (4, []) else (0, putN fs nm ss v)) := by unfold Hid putB; rw [h.1]
 have HP : Hid (putN fs nm ss v = fs.take (atN fs nm ss) ++ ⟨nm, ss, v⟩ :: fs.drop (if hasN fs nm ss = true then atN fs nm ss + 1 else atN fs nm ss)) := rfl
 have hAT : atN fs nm ss ≤ n := by have := atN_le fs nm ss; rw [h.1] at this; exact this
 have HLT : Hid (hasN fs nm ss = true → atN fs nm ss < n) := fun e => by have := has_lt e; rw [h.1] at this; exact this
 have Hh := Lib.hid h
 have Hst := Lib.hid h'
 have Hsm := Lib.hid hd
 have HL := Lib.hid h.1
 clear h h' hd hs
 generalize putB fs nm ss v = PB at *
 generalize putN fs nm ss v = PN at *
 generalize atN fs nm ss = AT at *
 generalize hasN fs nm ss = HS at *
 go_enter Tryz.func187, Tryz.ntmps187
 go_wp2_with fail
 refine (HKA.out _ ((Below.new _ _).later (Below.new _ _))).mono ?_
 rintro e w1 ⟨rfl, hb1⟩
 have HB1 := Lib.hid (((Below.new w _).later (Below.new _ _)).later hb1)
 have HY := Lib.hid (Blk.later (heap_two1 w _ _) hb1 (by simp))
 have HX := Lib.hid (Blk.later (heap_two0 w _ _) hb1 (by simp; omega))
 have px := HX.out.cell 0
 have fy := HY.out.frozen 0
 have py := HY.out.cell 0
 simp at px py
 have hz1' : w.heap.size + 1 < w1.heap.size := by have := hb1.size; simp at this; omega
 have hz2' : w.heap.size < w1.heap.size := by omega
 clear hb1
 by_cases hful : (!HS && decide (120 ≤ n)) = true
 · have HE : Hid (PB = (4, [])) := by unfold Hid; rw [HB.out, if_pos hful]
   rw [Bool.and_eq_true] at hful
   obtain ⟨e1, e2⟩ := hful
   have e2 : 120 ≤ n := of_decide_eq_true e2
   obtain rfl : HS = false := by cases HS <;> simp_all
   go_wp2_with fail
   refine bodyPost_ret (v := .tuple #[.agg #[.slice none 0 0], .int .i64 4]) (by simp [results, Tryz.results187, go_sem, py]) rfl ?_
   exact ⟨_, by rw [HE.out], by rw [HE.out]; exact nodesO_nil _ _, HB1.out.setCell (show w.heap.size ≤ w.heap.size + 1 by omega) _⟩
 · have HE : Hid (PB = (0, PN)) := by unfold Hid; rw [HB.out, if_neg hful]
   have hcn : HS = true ∨ (HS = false ∧ ¬ 120 ≤ n) := by cases HS <;> simp_all
   clear hful
   obtain ⟨cs, hcs, hrd⟩ := nodes_reads Hh.out
   have HCS := Lib.hid hcs
   have HRD := Lib.hid ((hrd.below HB1.out))
   have HCL := Lib.hid hcs.len
   have HONE : Hid (∀ u ∈ cs, u.oneCell' = true) := CellsG.all (fun c d h => nodeC_one c d h) hcs
   clear hcs hrd
   have HLIT : Hid ((w1.alloc (.cells #[] 102)).ownsRow w.heap.size 102 3 (.slice (some ⟨w1.heap.size, 0, none⟩) 0 0) 0 []) := World.ownsRow_lit _ _ 0 (by omega) (by omega) rfl
   generalize hk2 : (if HS = true then AT + 1 else AT) = K2 at *
   rcases hcn with rfl | ⟨rfl, h120⟩
   · have hK2 : K2 ≤ n := by have := HLT.out rfl; simp at hk2; omega
     obtain rfl : K2 = AT + 1 := by simpa using hk2.symm
     go_wp2_with (at_builtin; refine wpList_append_any _ rfl (.tmp 29) (.tmp 33) 24 rfl w.heap.size 102 i0 _ 3 56 Tryz.underlying24 hi hz0 hz1 hz2 rfl (by decide) _ 0 [] rfl (HLIT.out) w.heap.size A AT c (cs.take (AT * 3)) rfl ((reads_take HRD.out hAT).alloc (by omega) _) (fun u hu => HONE.out u (List.mem_of_mem_take hu)) ?c1 ?c2 ?c3 ?_)
     case c1 => unfold maxLen; omega
     case c2 => omega
     case c3 => simp; omega
     intro v2 w2 ho2 hg2 _
     have HB2 := Lib.hid ((HB1.out.alloc (by omega) _).grown hg2 (by simp; omega) (fun g hg' => (HLIT.out.lt g hg').1))
     have HX2 := Lib.hid ((HX.out.alloc (.cells #[] 102)).grown hg2 (fun e => Own.own_blk_ne HLIT.out (HX.out.alloc _) (by decide) e.symm))
     have HY2 := Lib.hid ((HY.out.alloc (.cells #[] 102)).grown hg2 (fun e => Own.own_blk_ne HLIT.out (HY.out.alloc _) (by decide) e.symm))
     have HRD2 := Lib.hid ((HRD.out.alloc (by omega) _).grown hg2 (by simp; omega) (fun g hg' => (HLIT.out.lt g hg').1))
     have HO2 : Hid (∀ o, (w2.alloc o).ownsRow w.heap.size 102 3 v2 AT (cs.take (AT * 3))) := fun o => Own.own_later (by simpa using ho2) (Below.new _ _)
     have hw2 := HB2.out.size
     clear ho2 hg2 px py fy
     go_wp2_with (at_builtin; refine wpList_append_own _ rfl (.tmp 35) (.tmp 40) 24 rfl w.heap.size 102 i0 _ 3 56 Tryz.underlying24 hi hz0 hz1 hz2 rfl (by decide) _ AT _ rfl (HO2.out _) ⟨_, 0, none⟩ 1 1 [.string nm, .slice S m q, .string v] rfl rfl ?c1 ?c2 ?c3 ?c4 ?c5 ?_)
     case c1 => exact cells_newN _ _ _
     case c2 => simp [Value.oneCell']
     case c3 => unfold maxLen; omega
     case c4 => omega
     case c5 => simp; omega
     intro v3 w3 ho3 hg3 _
     have HB3 := Lib.hid ((HB2.out.alloc (by omega) _).grown hg3 (by simp; omega) (fun g hg' => ((HO2.out (.cells #[] 0)).lt g hg').1))
     have HX3 := Lib.hid ((HX2.out.alloc (.cells #[.string nm, .slice S m q, .string v] 102)).grown hg3 (fun e => Own.own_blk_ne (HO2.out (.cells #[] 0)) (HX2.out.alloc _) (by decide) e.symm))
     have HY3 := Lib.hid ((HY2.out.alloc (.cells #[.string nm, .slice S m q, .string v] 102)).grown hg3 (fun e => Own.own_blk_ne (HO2.out (.cells #[] 0)) (HY2.out.alloc _) (by decide) e.symm))
     have HRD3 := Lib.hid ((HRD2.out.alloc (by omega) _).grown hg3 (by simp; omega) (fun g hg' => ((HO2.out (.cells #[] 0)).lt g hg').1))
     have HO3 := Lib.hid ho3
     have hw3 := HB3.out.size
     have px := HX3.out.cell 0
     simp at px
     have hx3 := HX3.out.lt
     have hi3 : (AT + 1) ≤ n := by omega
     have hi4 : ((AT + 1 : Nat) : Int) ≤ (n : Int) := by omega
     clear ho3 hg3
     go_wp2_with (at_builtin; refine wpList_append_any _ rfl (.tmp 45) (.tmp 49) 24 rfl w.heap.size 102 i0 _ 3 56 Tryz.underlying24 hi hz0 hz1 hz2 rfl (by decide) _ _ _ rfl (HO3.out) w.heap.size _ (n - (AT + 1)) _ (cs.drop ((AT + 1) * 3)) rfl (HRD3.out.cut hi3 hnc) (fun u hu => HONE.out u (List.mem_of_mem_drop hu)) ?c1 ?c2 ?c3 ?_)
     case c1 => unfold maxLen; omega
     case c2 => omega
     case c3 => omega
     all_goals
      intro v4 w4 ho4 hg4 _
      have HB4 := Lib.hid (HB3.out.grown hg4 (by omega) (fun g hg' => (HO3.out.lt g hg').1))
      have HY4 := Lib.hid (HY3.out.grown hg4 (fun e => Own.own_blk_ne HO3.out HY3.out (by decide) e.symm))
      have hpn : PN.length = AT + 1 + (n - (AT + 1)) := by
       rw [HP.out, List.length_append, List.length_cons, List.length_take, List.length_drop, HL.out]
       omega
      have hcn : CellsN w PN ((cs.take (AT * 3) ++ [.string nm, .slice S m q, .string v]) ++ cs.drop ((AT + 1) * 3)) := by
       rw [cellsN_iff, HP.out, List.append_assoc]
       exact CellsG.append (HCS.out.take AT) ⟨[.string nm, .slice S m q, .string v], _, rfl, rfl, ⟨_, _, _, rfl, rfl, ⟨S, m, q, rfl, Hst.out, hmq⟩, rfl⟩, HCS.out.drop (AT + 1)⟩
      obtain ⟨A4, cap4, rfl, hcap4, hN4⟩ := nodes_of_row (fs := PN) ho4 (by omega) (by simpa using hcn) HB4.out
      have HKO := Lib.hid (l03Own_any A4 _ cap4 PN w4 hN4 HSM.out)
      have hw4 := HB4.out.size
      clear ho4 hg4 hcn px hN4 hpn
      go_wp2_with fail
      refine HKO.out.mono ?_
      rintro e w5 ⟨v5, rfl, hN5, hb5⟩
      have HY5 := Lib.hid (HY4.out.later hb5 HY4.out.lt)
      have HB5 := Lib.hid (HB4.out.later hb5)
      obtain ⟨A5, cap5, rfl, _, _⟩ := hN5.reads
      have HN5 := Lib.hid (hN5.base hw4)
      have p5 := HY5.out.cell 0
      have f5 := HY5.out.frozen 0
      simp at p5
      have z5 := HY5.out.lt
      clear hb5 hN5
      go_wp2_with fail
      refine bodyPost_ret (v := .tuple #[.agg #[.slice A5 _ cap5], .int .i64 0]) (by simp [results, Tryz.results187, go_sem, p5]; try exact rfl) rfl ?_
      exact ⟨_, by rw [HE.out], by rw [HE.out]; exact HN5.out.setBlk HY5.out (by decide) (by decide), HB5.out.setCell (show w.heap.size ≤ w.heap.size + 1 by omega) _⟩
   · obtain rfl : K2 = AT := by simpa using hk2.symm
     go_wp2_with (at_builtin; refine wpList_append_any _ rfl (.tmp 29) (.tmp 33) 24 rfl w.heap.size 102 i0 _ 3 56 Tryz.underlying24 hi hz0 hz1 hz2 rfl (by decide) _ 0 [] rfl (HLIT.out) w.heap.size A K2 c (cs.take (K2 * 3)) rfl ((reads_take HRD.out hAT).alloc (by omega) _) (fun u hu => HONE.out u (List.mem_of_mem_take hu)) ?c1 ?c2 ?c3 ?_)
     case c1 => unfold maxLen; omega
     case c2 => omega
     case c3 => simp; omega
     intro v2 w2 ho2 hg2 _
     have HB2 := Lib.hid ((HB1.out.alloc (by omega) _).grown hg2 (by simp; omega) (fun g hg' => (HLIT.out.lt g hg').1))
     have HX2 := Lib.hid ((HX.out.alloc (.cells #[] 102)).grown hg2 (fun e => Own.own_blk_ne HLIT.out (HX.out.alloc _) (by decide) e.symm))
     have HY2 := Lib.hid ((HY.out.alloc (.cells #[] 102)).grown hg2 (fun e => Own.own_blk_ne HLIT.out (HY.out.alloc _) (by decide) e.symm))
     have HRD2 := Lib.hid ((HRD.out.alloc (by omega) _).grown hg2 (by simp; omega) (fun g hg' => (HLIT.out.lt g hg').1))
     have HO2 : Hid (∀ o, (w2.alloc o).ownsRow w.heap.size 102 3 v2 K2 (cs.take (K2 * 3))) := fun o => Own.own_later (by simpa using ho2) (Below.new _ _)
     have hw2 := HB2.out.size
     clear ho2 hg2 px py fy
     go_wp2_with (at_builtin; refine wpList_append_own _ rfl (.tmp 35) (.tmp 40) 24 rfl w.heap.size 102 i0 _ 3 56 Tryz.underlying24 hi hz0 hz1 hz2 rfl (by decide) _ K2 _ rfl (HO2.out _) ⟨_, 0, none⟩ 1 1 [.string nm, .slice S m q, .string v] rfl rfl ?c1 ?c2 ?c3 ?c4 ?c5 ?_)
     case c1 => exact cells_newN _ _ _
     case c2 => simp [Value.oneCell']
     case c3 => unfold maxLen; omega
     case c4 => omega
     case c5 => simp; omega
     intro v3 w3 ho3 hg3 _
     have HB3 := Lib.hid ((HB2.out.alloc (by omega) _).grown hg3 (by simp; omega) (fun g hg' => ((HO2.out (.cells #[] 0)).lt g hg').1))
     have HX3 := Lib.hid ((HX2.out.alloc (.cells #[.string nm, .slice S m q, .string v] 102)).grown hg3 (fun e => Own.own_blk_ne (HO2.out (.cells #[] 0)) (HX2.out.alloc _) (by decide) e.symm))
     have HY3 := Lib.hid ((HY2.out.alloc (.cells #[.string nm, .slice S m q, .string v] 102)).grown hg3 (fun e => Own.own_blk_ne (HO2.out (.cells #[] 0)) (HY2.out.alloc _) (by decide) e.symm))
     have HRD3 := Lib.hid ((HRD2.out.alloc (by omega) _).grown hg3 (by simp; omega) (fun g hg' => ((HO2.out (.cells #[] 0)).lt g hg').1))
     have HO3 := Lib.hid ho3
     have hw3 := HB3.out.size
     have px := HX3.out.cell 0
     simp at px
     have hx3 := HX3.out.lt
     have hi3 : (K2) ≤ n := by omega
     have hi4 : ((K2 : Nat) : Int) ≤ (n : Int) := by omega
     clear ho3 hg3
     go_wp2_with (at_builtin; refine wpList_append_any _ rfl (.tmp 45) (.tmp 49) 24 rfl w.heap.size 102 i0 _ 3 56 Tryz.underlying24 hi hz0 hz1 hz2 rfl (by decide) _ _ _ rfl (HO3.out) w.heap.size _ (n - (K2)) _ (cs.drop ((K2) * 3)) rfl (HRD3.out.cut hi3 hnc) (fun u hu => HONE.out u (List.mem_of_mem_drop hu)) ?c1 ?c2 ?c3 ?_)
     case c1 => unfold maxLen; omega
     case c2 => omega
     case c3 => omega
     all_goals
      intro v4 w4 ho4 hg4 _
      have HB4 := Lib.hid (HB3.out.grown hg4 (by omega) (fun g hg' => (HO3.out.lt g hg').1))
      have HY4 := Lib.hid (HY3.out.grown hg4 (fun e => Own.own_blk_ne HO3.out HY3.out (by decide) e.symm))
      have hpn : PN.length = K2 + 1 + (n - (K2)) := by
       rw [HP.out, List.length_append, List.length_cons, List.length_take, List.length_drop, HL.out]
       omega
      have hcn : CellsN w PN ((cs.take (K2 * 3) ++ [.string nm, .slice S m q, .string v]) ++ cs.drop ((K2) * 3)) := by
       rw [cellsN_iff, HP.out, List.append_assoc]
       exact CellsG.append (HCS.out.take K2) ⟨[.string nm, .slice S m q, .string v], _, rfl, rfl, ⟨_, _, _, rfl, rfl, ⟨S, m, q, rfl, Hst.out, hmq⟩, rfl⟩, HCS.out.drop (K2)⟩
      obtain ⟨A4, cap4, rfl, hcap4, hN4⟩ := nodes_of_row (fs := PN) ho4 (by omega) (by simpa using hcn) HB4.out
      have HKO := Lib.hid (l03Own_any A4 _ cap4 PN w4 hN4 HSM.out)
      have hw4 := HB4.out.size
      clear ho4 hg4 hcn px hN4 hpn
      go_wp2_with fail
      refine HKO.out.mono ?_
      rintro e w5 ⟨v5, rfl, hN5, hb5⟩
      have HY5 := Lib.hid (HY4.out.later hb5 HY4.out.lt)
      have HB5 := Lib.hid (HB4.out.later hb5)
      obtain ⟨A5, cap5, rfl, _, _⟩ := hN5.reads
      have HN5 := Lib.hid (hN5.base hw4)
      have p5 := HY5.out.cell 0
      have f5 := HY5.out.frozen 0
      simp at p5
      have z5 := HY5.out.lt
      clear hb5 hN5
      go_wp2_with fail
      refine bodyPost_ret (v := .tuple #[.agg #[.slice A5 _ cap5], .int .i64 0]) (by simp [results, Tryz.results187, go_sem, p5]; try exact rfl) rfl ?_
      exact ⟨_, by rw [HE.out], by rw [HE.out]; exact HN5.out.setBlk HY5.out (by decide) (by decide), HB5.out.setCell (show w.heap.size ≤ w.heap.size + 1 by omega) _⟩
end Go.Proofs.YtgmaamnofhmecaaGreatDoor
namespace Go.Proofs.YtgmaamnofhmecaaGreatDoor
open Go.RowKit
set_option linter.unusedVariables false
def putNodeB (fs : List NodeD) (nm : ByteArray) (ss : List ByteArray) (v : ByteArray) : Int × List NodeD := if (treeB fs && (thingB nm ss && decide (v.size ≤ 64))) = true then putB fs nm ss v else (1, [])
theorem treeB_len {fs : List NodeD} (h : treeB fs = true) : fs.length ≤ 120 := (tree_iff.1 h).1
set_option maxRecDepth 100000 in
set_option maxHeartbeats 4000000 in
theorem PutNode_any (A : Option Addr) (n c : Nat) (fs : List NodeD) (nm : ByteArray) (S : Option Addr) (m q : Nat) (ss : List ByteArray) (v : ByteArray) (w : World) (h : Nodes w w.heap.size A n fs) (hnc : n ≤ c) (hs : smallNs fs) (h' : Strs w w.heap.size S m ss) (hmq : m ≤ q) (hd : (⟨nm, ss, v⟩ : NodeD).small) :
 Calls Tryz.prog 121 #[.agg #[.slice A n c], .string nm, .slice S m q, .string v] w (TreePost (putNodeB fs nm ss v) w) := by
 have hm : m ≤ 1048576 := by rw [← h'.1]; exact hd.2.1.1
 have HKT := Lib.hid (fun W (hW : Below w.heap.size w W) => specTreeOk_any A n c fs W (h.later hW) hs)
 have HKP := Lib.hid (fun W (hW : Below w.heap.size w W) => l03Place_any nm S m q ss W hd.1 (h'.later hW) hm hd.2.1.2)
 have HKU := Lib.hid (fun W (hW : Below w.heap.size w W) (ht : treeB fs = true) => l03Put_any A n c fs nm S m q ss v W (h.later hW) hnc hs (by have := treeB_len ht; rw [h.1] at this; omega) (h'.later hW) hmq hd)
 have HB : Hid (putNodeB fs nm ss v = if (treeB fs && (thingB nm ss && decide (v.size ≤ 64))) = true then putB fs nm ss v else (1, [])) := rfl
 have hvs : v.size ≤ 1048576 := hd.2.2
 clear h h' hd hs
 generalize putNodeB fs nm ss v = PB at *
 generalize putB fs nm ss v = PU at *
 generalize treeB fs = t0 at *
 generalize thingB nm ss = t1 at *
 go_enter Tryz.func121, Tryz.ntmps121
 go_wp2_with fail
 refine (HKT.out _ ((Below.new _ _).later (Below.new _ _))).mono ?_
 rintro e w1 ⟨rfl, hb1⟩
 have HB1 := Lib.hid (((Below.new w _).later (Below.new _ _)).later hb1)
 have HX := Lib.hid (Blk.later (heap_two0 w _ _) hb1 (by simp; omega))
 have HY := Lib.hid (Blk.later (heap_two1 w _ _) hb1 (by simp))
 have px := HX.out.cell 0
 have py := HY.out.cell 0
 have fy := HY.out.frozen 0
 have zy := HY.out.lt
 simp at px py
 clear hb1
 cases t0
 · have HE : Hid (PB = (1, [])) := by unfold Hid; rw [HB.out]; rfl
   go_wp2_with fail
   refine bodyPost_ret (v := .tuple #[.agg #[.slice none 0 0], .int .i64 1]) (by simp [results, Tryz.results121, go_sem, py]) rfl ?_
   exact ⟨_, by rw [HE.out], by rw [HE.out]; exact nodesO_nil _ _, HB1.out.setCell (show w.heap.size ≤ w.heap.size + 1 by omega) _⟩
 · go_wp2_with fail
   refine (HKP.out _ HB1.out).mono ?_
   rintro e w2 ⟨rfl, rfl⟩
   cases t1
   · have HE : Hid (PB = (1, [])) := by unfold Hid; rw [HB.out]; rfl
     go_wp2_with fail
     refine bodyPost_ret (v := .tuple #[.agg #[.slice none 0 0], .int .i64 1]) (by simp [results, Tryz.results121, go_sem, py]) rfl ?_
     exact ⟨_, by rw [HE.out], by rw [HE.out]; exact nodesO_nil _ _, HB1.out.setCell (show w.heap.size ≤ w.heap.size + 1 by omega) _⟩
   · by_cases h64 : 64 < v.size
     · have HE : Hid (PB = (1, [])) := by unfold Hid; rw [HB.out, decide_eq_false (by omega)]; rfl
       go_wp2_with fail
       refine bodyPost_ret (v := .tuple #[.agg #[.slice none 0 0], .int .i64 1]) (by simp [results, Tryz.results121, go_sem, py]) rfl ?_
       exact ⟨_, by rw [HE.out], by rw [HE.out]; exact nodesO_nil _ _, HB1.out.setCell (show w.heap.size ≤ w.heap.size + 1 by omega) _⟩
     · have HE : Hid (PB = PU) := by unfold Hid; rw [HB.out, decide_eq_true (show v.size ≤ 64 by omega)]; rfl
       go_wp2_with fail
       refine (HKU.out _ HB1.out (by trivial)).mono ?_
       rintro e w5 ⟨v5, rfl, hN5, hb5⟩
       have HY5 := Lib.hid (HY.out.later hb5 HY.out.lt)
       have HB5 := Lib.hid (HB1.out.later hb5)
       obtain ⟨A5, cap5, rfl, _, _⟩ := hN5.reads
       have HN5 := Lib.hid (hN5.base HB1.out.size)
       have p5 := HY5.out.cell 0
       have f5 := HY5.out.frozen 0
       have z5 := HY5.out.lt
       simp at p5
       clear hb5 hN5 px py fy zy
       go_wp2_with fail
       refine bodyPost_ret (v := .tuple #[.agg #[.slice A5 _ cap5], .int .i64 _]) (by simp [results, Tryz.results121, go_sem, p5]; try first | exact rfl | exact ⟨rfl, rfl⟩) rfl ?_
       exact ⟨_, by rw [HE.out], by rw [HE.out]; exact HN5.out.setBlk HY5.out (by decide) (by decide), HB5.out.setCell (show w.heap.size ≤ w.heap.size + 1 by omega) _⟩
theorem kill_small {fs : List NodeD} {nm : ByteArray} {ss : List ByteArray} (h : smallNs fs) : smallNs (killB fs nm ss) :=
 ⟨Nat.le_trans (List.length_filter_le _ _) h.1, fun d hd => h.2 d (List.mem_filter.1 hd).1⟩
set_option maxRecDepth 100000 in
set_option maxHeartbeats 4000000 in
theorem l03Kill_any (A : Option Addr) (n c : Nat) (fs : List NodeD) (nm : ByteArray) (S : Option Addr) (m q : Nat) (ss : List ByteArray) (w : World) (h : Nodes w w.heap.size A n fs) (hs : smallNs fs) (h' : Strs w w.heap.size S m ss) (hm : m ≤ 1048576) :
 Calls Tryz.prog 188 #[.agg #[.slice A n c], .string nm, .slice S m q] w (TreeOnly (killB fs nm ss) w) := by
 obtain ⟨i0, hi, hz0, hz1, hz2⟩ := info_parts infoNodeD
 have Hh := Lib.hid h
 have Hlen := Lib.hid h.1
 have hn : n ≤ 1048576 := by rw [← h.1]; exact hs.1
 have Hst := Lib.hid h'
 have HSM := Lib.hid (kill_small (nm := nm) (ss := ss) hs)
 have HOUT : Hid (killB fs nm ss = fs.filter fun d => !inN nm ss d) := rfl
 clear h h' hs
 generalize killB fs nm ss = OUT at *
 generalize hP : (fun d => !inN nm ss d) = P at *
 have HP : Hid (∀ d, P d = !inN nm ss d) := by subst hP; exact fun _ => rfl
 clear hP
 have HY0 := Lib.hid (Blk.alloc (heap_two1 w (.cells #[.slice A n c] 26) (.cells #[.slice none 0 0] 26)) (.cells #[] 102))
 have HX0 := Lib.hid (Blk.alloc (heap_two0 w (.cells #[.slice A n c] 26) (.cells #[.slice none 0 0] 26)) (.cells #[] 102))
 have HB0 := Lib.hid (((Below.new w (.cells #[.slice A n c] 26)).later (Below.new _ (.cells #[.slice none 0 0] 26))).later (Below.new _ (.cells #[] 102)))
 go_enter Tryz.func188, Tryz.ntmps188
 go_wp2_with fail
 go_loopw [7, 8] (fun v i wr => ∃ (k : Nat) (cs : List Value), k ≤ n ∧ i = .int .i64 k ∧ Hid (wr.ownsRow (w.heap.size + 1 + 1) 102 3 v ((fs.take k).filter P).length cs) ∧ Hid (CellsN w ((fs.take k).filter P) cs) ∧ Hid (Blk wr w.heap.size 26 #[.slice A n c]) ∧ Hid (Blk wr (w.heap.size + 1) 26 #[.slice none 0 0]) ∧ Hid (Below w.heap.size w wr)) (fun _ i _ => n - (intOf i).toNat)
 case atStart => exact ⟨0, [], Nat.zero_le _, rfl, by unfold Hid; simpa using World.ownsRow_lit (e := 102) (size := 3) ((w.alloc (.cells #[.slice A n c] 26)).alloc (.cells #[.slice none 0 0] 26)) #[] 0 (by simp) (by omega) rfl, rfl, HX0.out, HY0.out, HB0.out⟩
 case round =>
  obtain ⟨k, cs, hk, rfl, HO, HC, HX, HY, HB⟩ := hrel
  have px := HX.out.cell 0
  have zx := HX.out.lt
  simp at px
  have hml := filter_len P fs k
  have hsz := HB.out.size
  have hzy := HY.out.lt
  by_cases hlt : k < n
  · obtain ⟨bb, o, e0, hbB0, hc0⟩ := Hh.out.2 (by omega)
    obtain ⟨c0, c1, c2, k0, k1, k2, hr⟩ := hc0 k hlt
    subst e0
    have j0 := (HB.out.cell (p := ⟨bb, o + k * 3, none⟩) hbB0).trans k0
    have j1 := (HB.out.cell (p := ⟨bb, o + k * 3 + 1, none⟩) hbB0).trans k1
    have j2 := (HB.out.cell (p := ⟨bb, o + k * 3 + 2, none⟩) hbB0).trans k2
    have hbB : bb < wr.heap.size := by omega
    clear hc0 k0 k1 k2
    have hl1 : k < fs.length := by rw [Hlen.out]; exact hlt
    have HTS := Lib.hid (filter_snoc P fs k hl1)
    have HPd := Lib.hid (HP.out (fs.getD k default))
    clear hl1
    generalize fs.getD k default = d at *
    have HNR := Lib.hid hr
    have HKI := Lib.hid (fun W (hW : Below wr.heap.size wr W) => l03In_any c0 c1 c2 S m q d nm ss W (hr.later (HB.out.later hW)) (Hst.out.later (HB.out.later hW)) hm)
    obtain ⟨e0, ⟨A1, n1, cap1, e1, hs1, hcap1⟩, e2⟩ := hr
    subst e0 e1 e2
    clear hs1
    generalize hM : ((fs.take k).filter P).length = mm at *
    have HM := Lib.hid hM
    clear hM
    generalize inN nm ss d = y at *
    go_wp2_with fail
    refine (HKI.out _ (by first | exact Below.refl _ _ | exact (Below.refl _ _).drew | exact below_drewN (Below.refl _ _) _)).mono ?_
    rintro e w1 ⟨rfl, hb1'⟩
    have hb1 : Below wr.heap.size wr w1 := by first | exact hb1' | exact undrew hb1' | exact undrewN hb1'
    have HX1 := Lib.hid (HX.out.later hb1 HX.out.lt)
    have HY1 := Lib.hid (HY.out.later hb1 HY.out.lt)
    have HB1 := Lib.hid (HB.out.later hb1)
    have HO1 := Lib.hid (Own.own_later HO.out hb1)
    have l0 := (hb1.cell (p := ⟨bb, o + k * 3, none⟩) hbB).trans j0
    have l1 := (hb1.cell (p := ⟨bb, o + k * 3 + 1, none⟩) hbB).trans j1
    have l2 := (hb1.cell (p := ⟨bb, o + k * 3 + 2, none⟩) hbB).trans j2
    have p1 := HX1.out.cell 0
    have z1 := HX1.out.lt
    simp at p1
    have hw1 := hb1.size
    clear hb1 hb1' j0 j1 j2 px
    cases y
    · have HE : Hid ((fs.take (k + 1)).filter P = (fs.take k).filter P ++ [d]) := by unfold Hid; rw [HTS.out, if_pos (by rw [HPd.out]; rfl)]
      have hrow : Hid (∀ o, (w1.alloc o).ownsRow (w.heap.size + 1 + 1) 102 3 u7 mm cs) := fun o => Own.own_later HO1.out (Below.new _ _)
      go_wp2_with (at_builtin; refine wpList_append_own _ rfl (.tmp 26) (.tmp 32) 24 rfl (w.heap.size + 1 + 1) 102 i0 _ 3 56 Tryz.underlying24 hi hz0 hz1 hz2 rfl (by decide) _ mm _ rfl (hrow.out _) ⟨_, 0, none⟩ 1 1 [.string d.name, .slice A1 n1 cap1, .string d.val] rfl rfl ?c1 ?c2 ?c3 ?c4 ?c5 ?_)
      case c1 => exact cells_newN _ _ _
      case c2 => simp [Value.oneCell']
      case c3 => unfold maxLen; omega
      case c4 => omega
      case c5 => first | omega | (simp; omega)
      intro v1 w2 hown1 hg1 _
      have HO3 : Hid (w2.ownsRow (w.heap.size + 1 + 1) 102 3 v1 ((fs.take (k + 1)).filter P).length (cs ++ [.string d.name, .slice A1 n1 cap1, .string d.val])) := by
       unfold Hid
       rw [HE.out, List.length_append, List.length_singleton, HM.out]
       exact hown1
      have HC3 : Hid (CellsN w ((fs.take (k + 1)).filter P) (cs ++ [.string d.name, .slice A1 n1 cap1, .string d.val])) := by
       unfold Hid
       rw [HE.out]
       exact CellsN.snoc HNR.out HC.out
      have HX3 := Lib.hid ((HX1.out.alloc (.cells #[.string d.name, .slice A1 n1 cap1, .string d.val] 102)).grown hg1 (fun e => Own.own_blk_ne (hrow.out (.cells #[] 0)) (HX1.out.alloc _) (by decide) e.symm))
      have HY3 := Lib.hid ((HY1.out.alloc (.cells #[.string d.name, .slice A1 n1 cap1, .string d.val] 102)).grown hg1 (fun e => Own.own_blk_ne (hrow.out (.cells #[] 0)) (HY1.out.alloc _) (by decide) e.symm))
      have HB3 := Lib.hid ((HB1.out.alloc (by omega) _).grown hg1 (by simp; omega) (fun g hg' => by have := ((hrow.out (.cells #[] 0)).lt g hg').1; omega))
      clear hown1 hg1 l0 l1 l2 p1 z1
      go_wp2_with fail
      go_roundw
      case rel => exact ⟨k + 1, _, by omega, by go_num, HO3.out, HC3.out, HX3.out, HY3.out, HB3.out⟩
      case measure => simp [intOf]; omega
    · have HE : Hid ((fs.take (k + 1)).filter P = (fs.take k).filter P) := by unfold Hid; rw [HTS.out, if_neg (by rw [HPd.out]; simp)]
      go_wp2_with fail
      go_roundw
      case rel =>
       refine ⟨k + 1, cs, by omega, by go_num, ?_, ?_, HX1.out, HY1.out, HB1.out⟩
       · unfold Hid; rw [HE.out, HM.out]; exact HO1.out
       · unfold Hid; rw [HE.out]; exact HC.out
      case measure => simp [intOf]; omega
  · obtain rfl : k = n := by omega
    have HE : Hid ((fs.take k).filter P = OUT) := by unfold Hid; rw [HOUT.out, List.take_of_length_le (by rw [Hlen.out]; omega)]
    have h1 := HO.out
    have h2 := HC.out
    rw [HE.out] at h1 h2
    obtain ⟨A4, cap4, rfl, hcap4, hN4⟩ := nodes_of_row h1 rfl h2 HB.out
    have HKO := Lib.hid (l03Own_any A4 _ cap4 OUT wr hN4 HSM.out)
    clear h1 h2 hN4 HO
    go_wp2_with fail
    refine HKO.out.mono ?_
    rintro e w5 ⟨v5, rfl, hN5, hb5⟩
    have HY5 := Lib.hid (HY.out.later hb5 HY.out.lt)
    have HB5 := Lib.hid (HB.out.later hb5)
    obtain ⟨A5, cap5, rfl, _, _⟩ := hN5.reads
    have HN5 := Lib.hid (hN5.base hsz)
    have p5 := HY5.out.cell 0
    have f5 := HY5.out.frozen 0
    have z5 := HY5.out.lt
    simp at p5
    clear hb5 hN5 px
    go_wp2_with fail
    refine bodyPost_ret (v := .agg #[.slice A5 _ cap5]) (by simp [results, Tryz.results188, go_sem, p5]; try first | exact rfl | exact ⟨rfl, rfl⟩) rfl ?_
    exact ⟨_, rfl, HN5.out.setBlk HY5.out (by decide) (by decide), HB5.out.setCell (show w.heap.size ≤ w.heap.size + 1 by omega) _⟩
end Go.Proofs.YtgmaamnofhmecaaGreatDoor
