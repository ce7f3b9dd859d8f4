/-
  Trees of the reference: PutNode, l03Kill, KillNode.
-/
import Derived.Test.YtfpcjhajjejpdaaGreatDoorZ23
namespace Go.Proofs.YtfpcjhajjejpdaaGreatDoor
open Go.RowKit
set_option linter.unusedVariables false

def putNodeB (fs : List NodeD) (nm : ByteArray) (ss : List ByteArray) (v : ByteArray) : Int × List NodeD := if (treeB fs && (thingB nm ss && decide (v.size ≤ 64))) = true then putB fs nm ss v else (1, [])
def killNodeB (fs : List NodeD) (nm : ByteArray) (ss : List ByteArray) : List NodeD := if (treeB fs && thingB nm ss) = true then killB fs nm ss else []
theorem treeB_len {fs : List NodeD} (h : treeB fs = true) : fs.length ≤ 120 := (tree_iff.1 h).1
set_option maxRecDepth 100000 in
set_option maxHeartbeats 4000000 in
theorem PutNode_any (A : Option Addr) (n c : Nat) (fs : List NodeD) (nm : ByteArray) (S : Option Addr) (m q : Nat) (ss : List ByteArray) (v : ByteArray) (w : World) (h : Nodes w w.heap.size A n fs) (hnc : n ≤ c) (hs : smallNs fs) (h' : Strs w w.heap.size S m ss) (hmq : m ≤ q) (hd : (⟨nm, ss, v⟩ : NodeD).small) :
    Calls Tryz.prog 95 #[.agg #[.slice A n c], .string nm, .slice S m q, .string v] w (TreePost (putNodeB fs nm ss v) w) := by
  have hm : m ≤ 1048576 := by rw [← h'.1]; exact hd.2.1.1
  have HKT := Lib.hid (fun W (hW : Below w.heap.size w W) => specTreeOk_any A n c fs W (h.later hW) hs)
  have HKP := Lib.hid (fun W (hW : Below w.heap.size w W) => l03Place_any nm S m q ss W hd.1 (h'.later hW) hm hd.2.1.2)
  have HKU := Lib.hid (fun W (hW : Below w.heap.size w W) (ht : treeB fs = true) => l03Put_any A n c fs nm S m q ss v W (h.later hW) hnc hs (by have := treeB_len ht; rw [h.1] at this; omega) (h'.later hW) hmq hd)
  have HB : Hid (putNodeB fs nm ss v = if (treeB fs && (thingB nm ss && decide (v.size ≤ 64))) = true then putB fs nm ss v else (1, [])) := rfl
  have hvs : v.size ≤ 1048576 := hd.2.2
  clear h h' hd hs
  generalize putNodeB fs nm ss v = PB at *
  generalize putB fs nm ss v = PU at *
  generalize treeB fs = t0 at *
  generalize thingB nm ss = t1 at *
  go_enter Tryz.func95, Tryz.ntmps95
  go_wp2_with fail
  refine (HKT.out _ ((Below.new _ _).later (Below.new _ _))).mono ?_
  rintro e w1 ⟨rfl, hb1⟩
  have HB1 := Lib.hid (((Below.new w _).later (Below.new _ _)).later hb1)
  have HX := Lib.hid (Blk.later (heap_two0 w _ _) hb1 (by simp; omega))
  have HY := Lib.hid (Blk.later (heap_two1 w _ _) hb1 (by simp))
  have px := HX.out.cell 0
  have py := HY.out.cell 0
  have fy := HY.out.frozen 0
  have zy := HY.out.lt
  simp at px py
  clear hb1
  cases t0
  · have HE : Hid (PB = (1, [])) := by unfold Hid; rw [HB.out]; rfl
    go_wp2_with fail
    refine bodyPost_ret (v := .tuple #[.agg #[.slice none 0 0], .int .i64 1]) (by simp [results, Tryz.results95, go_sem, py]) rfl ?_
    exact ⟨_, by rw [HE.out], by rw [HE.out]; exact nodesO_nil _ _, HB1.out.setCell (show w.heap.size ≤ w.heap.size + 1 by omega) _⟩
  · go_wp2_with fail
    refine (HKP.out _ HB1.out).mono ?_
    rintro e w2 ⟨rfl, rfl⟩
    cases t1
    · have HE : Hid (PB = (1, [])) := by unfold Hid; rw [HB.out]; rfl
      go_wp2_with fail
      refine bodyPost_ret (v := .tuple #[.agg #[.slice none 0 0], .int .i64 1]) (by simp [results, Tryz.results95, go_sem, py]) rfl ?_
      exact ⟨_, by rw [HE.out], by rw [HE.out]; exact nodesO_nil _ _, HB1.out.setCell (show w.heap.size ≤ w.heap.size + 1 by omega) _⟩
    · by_cases h64 : 64 < v.size
      · have HE : Hid (PB = (1, [])) := by unfold Hid; rw [HB.out, decide_eq_false (by omega)]; rfl
        go_wp2_with fail
        refine bodyPost_ret (v := .tuple #[.agg #[.slice none 0 0], .int .i64 1]) (by simp [results, Tryz.results95, go_sem, py]) rfl ?_
        exact ⟨_, by rw [HE.out], by rw [HE.out]; exact nodesO_nil _ _, HB1.out.setCell (show w.heap.size ≤ w.heap.size + 1 by omega) _⟩
      · have HE : Hid (PB = PU) := by unfold Hid; rw [HB.out, decide_eq_true (show v.size ≤ 64 by omega)]; rfl
        go_wp2_with fail
        refine (HKU.out _ HB1.out (by trivial)).mono ?_
        rintro e w5 ⟨v5, rfl, hN5, hb5⟩
        have HY5 := Lib.hid (HY.out.later hb5 HY.out.lt)
        have HB5 := Lib.hid (HB1.out.later hb5)
        obtain ⟨A5, cap5, rfl, _, _⟩ := hN5.reads
        have HN5 := Lib.hid (hN5.base HB1.out.size)
        have p5 := HY5.out.cell 0
        have f5 := HY5.out.frozen 0
        have z5 := HY5.out.lt
        simp at p5
        clear hb5 hN5 px py fy zy
        go_wp2_with fail
        refine bodyPost_ret (v := .tuple #[.agg #[.slice A5 _ cap5], .int .i64 _]) (by simp [results, Tryz.results95, go_sem, p5]; try first | exact rfl | exact ⟨rfl, rfl⟩) rfl ?_
        exact ⟨_, by rw [HE.out], by rw [HE.out]; exact HN5.out.setBlk HY5.out (by decide) (by decide), HB5.out.setCell (show w.heap.size ≤ w.heap.size + 1 by omega) _⟩
theorem kill_small {fs : List NodeD} {nm : ByteArray} {ss : List ByteArray} (h : smallNs fs) : smallNs (killB fs nm ss) :=
  ⟨Nat.le_trans (List.length_filter_le _ _) h.1, fun d hd => h.2 d (List.mem_filter.1 hd).1⟩
set_option maxRecDepth 100000 in
set_option maxHeartbeats 4000000 in
theorem l03Kill_any (A : Option Addr) (n c : Nat) (fs : List NodeD) (nm : ByteArray) (S : Option Addr) (m q : Nat) (ss : List ByteArray) (w : World) (h : Nodes w w.heap.size A n fs) (hs : smallNs fs) (h' : Strs w w.heap.size S m ss) (hm : m ≤ 1048576) :
    Calls Tryz.prog 156 #[.agg #[.slice A n c], .string nm, .slice S m q] w (TreeOnly (killB fs nm ss) w) := by
  obtain ⟨i0, hi, hz0, hz1, hz2⟩ := info_parts infoNodeD
  have Hh := Lib.hid h
  have Hlen := Lib.hid h.1
  have hn : n ≤ 1048576 := by rw [← h.1]; exact hs.1
  have Hst := Lib.hid h'
  have HSM := Lib.hid (kill_small (nm := nm) (ss := ss) hs)
  have HOUT : Hid (killB fs nm ss = fs.filter fun d => !inN nm ss d) := rfl
  clear h h' hs
  generalize killB fs nm ss = OUT at *
  generalize hP : (fun d => !inN nm ss d) = P at *
  have HP : Hid (∀ d, P d = !inN nm ss d) := by subst hP; exact fun _ => rfl
  clear hP
  have HY0 := Lib.hid (Blk.alloc (heap_two1 w (.cells #[.slice A n c] 26) (.cells #[.slice none 0 0] 26)) (.cells #[] 83))
  have HX0 := Lib.hid (Blk.alloc (heap_two0 w (.cells #[.slice A n c] 26) (.cells #[.slice none 0 0] 26)) (.cells #[] 83))
  have HB0 := Lib.hid (((Below.new w (.cells #[.slice A n c] 26)).later (Below.new _ (.cells #[.slice none 0 0] 26))).later (Below.new _ (.cells #[] 83)))
  go_enter Tryz.func156, Tryz.ntmps156
  go_wp2_with fail
  go_loopw [7, 8] (fun v i wr => ∃ (k : Nat) (cs : List Value), k ≤ n ∧ i = .int .i64 k ∧ Hid (wr.ownsRow (w.heap.size + 1 + 1) 83 3 v ((fs.take k).filter P).length cs) ∧ Hid (CellsN w ((fs.take k).filter P) cs) ∧ Hid (Blk wr w.heap.size 26 #[.slice A n c]) ∧ Hid (Blk wr (w.heap.size + 1) 26 #[.slice none 0 0]) ∧ Hid (Below w.heap.size w wr)) (fun _ i _ => n - (intOf i).toNat)
  case atStart => exact ⟨0, [], Nat.zero_le _, rfl, by unfold Hid; simpa using World.ownsRow_lit (e := 83) (size := 3) ((w.alloc (.cells #[.slice A n c] 26)).alloc (.cells #[.slice none 0 0] 26)) #[] 0 (by simp) (by omega) rfl, rfl, HX0.out, HY0.out, HB0.out⟩
  case round =>
    obtain ⟨k, cs, hk, rfl, HO, HC, HX, HY, HB⟩ := hrel
    have px := HX.out.cell 0
    have zx := HX.out.lt
    simp at px
    have hml := filter_len P fs k
    have hsz := HB.out.size
    have hzy := HY.out.lt
    by_cases hlt : k < n
    · obtain ⟨bb, o, e0, hbB0, hc0⟩ := Hh.out.2 (by omega)
      obtain ⟨c0, c1, c2, k0, k1, k2, hr⟩ := hc0 k hlt
      subst e0
      have j0 := (HB.out.cell (p := ⟨bb, o + k * 3, none⟩) hbB0).trans k0
      have j1 := (HB.out.cell (p := ⟨bb, o + k * 3 + 1, none⟩) hbB0).trans k1
      have j2 := (HB.out.cell (p := ⟨bb, o + k * 3 + 2, none⟩) hbB0).trans k2
      have hbB : bb < wr.heap.size := by omega
      clear hc0 k0 k1 k2
      have hl1 : k < fs.length := by rw [Hlen.out]; exact hlt
      have HTS := Lib.hid (filter_snoc P fs k hl1)
      have HPd := Lib.hid (HP.out (fs.getD k default))
      clear hl1
      generalize fs.getD k default = d at *
      have HNR := Lib.hid hr
      have HKI := Lib.hid (fun W (hW : Below wr.heap.size wr W) => l03In_any c0 c1 c2 S m q d nm ss W (hr.later (HB.out.later hW)) (Hst.out.later (HB.out.later hW)) hm)
      obtain ⟨e0, ⟨A1, n1, cap1, e1, hs1, hcap1⟩, e2⟩ := hr
      subst e0 e1 e2
      clear hs1
      generalize hM : ((fs.take k).filter P).length = mm at *
      have HM := Lib.hid hM
      clear hM
      generalize inN nm ss d = y at *
      go_wp2_with fail
      refine (HKI.out _ (by first | exact Below.refl _ _ | exact (Below.refl _ _).drew | exact below_drewN (Below.refl _ _) _)).mono ?_
      rintro e w1 ⟨rfl, hb1'⟩
      have hb1 : Below wr.heap.size wr w1 := by first | exact hb1' | exact undrew hb1' | exact undrewN hb1'
      have HX1 := Lib.hid (HX.out.later hb1 HX.out.lt)
      have HY1 := Lib.hid (HY.out.later hb1 HY.out.lt)
      have HB1 := Lib.hid (HB.out.later hb1)
      have HO1 := Lib.hid (Own.own_later HO.out hb1)
      have l0 := (hb1.cell (p := ⟨bb, o + k * 3, none⟩) hbB).trans j0
      have l1 := (hb1.cell (p := ⟨bb, o + k * 3 + 1, none⟩) hbB).trans j1
      have l2 := (hb1.cell (p := ⟨bb, o + k * 3 + 2, none⟩) hbB).trans j2
      have p1 := HX1.out.cell 0
      have z1 := HX1.out.lt
      simp at p1
      have hw1 := hb1.size
      clear hb1 hb1' j0 j1 j2 px
      cases y
      · have HE : Hid ((fs.take (k + 1)).filter P = (fs.take k).filter P ++ [d]) := by unfold Hid; rw [HTS.out, if_pos (by rw [HPd.out]; rfl)]
        have hrow : Hid (∀ o, (w1.alloc o).ownsRow (w.heap.size + 1 + 1) 83 3 u7 mm cs) := fun o => Own.own_later HO1.out (Below.new _ _)
        go_wp2_with (at_builtin; refine wpList_append_own _ rfl (.tmp 26) (.tmp 32) 24 rfl (w.heap.size + 1 + 1) 83 i0 _ 3 56 Tryz.underlying24 hi hz0 hz1 hz2 rfl (by decide) _ mm _ rfl (hrow.out _) ⟨_, 0, none⟩ 1 1 [.string d.name, .slice A1 n1 cap1, .string d.val] rfl rfl ?c1 ?c2 ?c3 ?c4 ?c5 ?_)
        case c1 => exact cells_newN _ _ _
        case c2 => simp [Value.oneCell']
        case c3 => unfold maxLen; omega
        case c4 => omega
        case c5 => first | omega | (simp; omega)
        intro v1 w2 hown1 hg1 _
        have HO3 : Hid (w2.ownsRow (w.heap.size + 1 + 1) 83 3 v1 ((fs.take (k + 1)).filter P).length (cs ++ [.string d.name, .slice A1 n1 cap1, .string d.val])) := by
          unfold Hid
          rw [HE.out, List.length_append, List.length_singleton, HM.out]
          exact hown1
        have HC3 : Hid (CellsN w ((fs.take (k + 1)).filter P) (cs ++ [.string d.name, .slice A1 n1 cap1, .string d.val])) := by
          unfold Hid
          rw [HE.out]
          exact CellsN.snoc HNR.out HC.out
        have HX3 := Lib.hid ((HX1.out.alloc (.cells #[.string d.name, .slice A1 n1 cap1, .string d.val] 83)).grown hg1 (fun e => Own.own_blk_ne (hrow.out (.cells #[] 0)) (HX1.out.alloc _) (by decide) e.symm))
        have HY3 := Lib.hid ((HY1.out.alloc (.cells #[.string d.name, .slice A1 n1 cap1, .string d.val] 83)).grown hg1 (fun e => Own.own_blk_ne (hrow.out (.cells #[] 0)) (HY1.out.alloc _) (by decide) e.symm))
        have HB3 := Lib.hid ((HB1.out.alloc (by omega) _).grown hg1 (by simp; omega) (fun g hg' => by have := ((hrow.out (.cells #[] 0)).lt g hg').1; omega))
        clear hown1 hg1 l0 l1 l2 p1 z1
        go_wp2_with fail
        go_roundw
        case rel => exact ⟨k + 1, _, by omega, by go_num, HO3.out, HC3.out, HX3.out, HY3.out, HB3.out⟩
        case measure => simp [intOf]; omega
      · have HE : Hid ((fs.take (k + 1)).filter P = (fs.take k).filter P) := by unfold Hid; rw [HTS.out, if_neg (by rw [HPd.out]; simp)]
        go_wp2_with fail
        go_roundw
        case rel =>
          refine ⟨k + 1, cs, by omega, by go_num, ?_, ?_, HX1.out, HY1.out, HB1.out⟩
          · unfold Hid; rw [HE.out, HM.out]; exact HO1.out
          · unfold Hid; rw [HE.out]; exact HC.out
        case measure => simp [intOf]; omega
    · obtain rfl : k = n := by omega
      have HE : Hid ((fs.take k).filter P = OUT) := by unfold Hid; rw [HOUT.out, List.take_of_length_le (by rw [Hlen.out]; omega)]
      have h1 := HO.out
      have h2 := HC.out
      rw [HE.out] at h1 h2
      obtain ⟨A4, cap4, rfl, hcap4, hN4⟩ := nodes_of_row h1 rfl h2 HB.out
      have HKO := Lib.hid (l03Own_any A4 _ cap4 OUT wr hN4 HSM.out)
      clear h1 h2 hN4 HO
      go_wp2_with fail
      refine HKO.out.mono ?_
      rintro e w5 ⟨v5, rfl, hN5, hb5⟩
      have HY5 := Lib.hid (HY.out.later hb5 HY.out.lt)
      have HB5 := Lib.hid (HB.out.later hb5)
      obtain ⟨A5, cap5, rfl, _, _⟩ := hN5.reads
      have HN5 := Lib.hid (hN5.base hsz)
      have p5 := HY5.out.cell 0
      have f5 := HY5.out.frozen 0
      have z5 := HY5.out.lt
      simp at p5
      clear hb5 hN5 px
      go_wp2_with fail
      refine bodyPost_ret (v := .agg #[.slice A5 _ cap5]) (by simp [results, Tryz.results156, go_sem, p5]; try first | exact rfl | exact ⟨rfl, rfl⟩) rfl ?_
      exact ⟨_, rfl, HN5.out.setBlk HY5.out (by decide) (by decide), HB5.out.setCell (show w.heap.size ≤ w.heap.size + 1 by omega) _⟩
set_option maxRecDepth 100000 in
set_option maxHeartbeats 4000000 in
theorem KillNode_any (A : Option Addr) (n c : Nat) (fs : List NodeD) (nm : ByteArray) (S : Option Addr) (m q : Nat) (ss : List ByteArray) (w : World) (h : Nodes w w.heap.size A n fs) (hs : smallNs fs) (h' : Strs w w.heap.size S m ss) (hm : m ≤ 1048576) (hnm : nm.size ≤ 1048576) (hz : ∀ s ∈ ss, s.size ≤ 1048576) :
    Calls Tryz.prog 97 #[.agg #[.slice A n c], .string nm, .slice S m q] w (TreeOnly (killNodeB fs nm ss) w) := by
  have HKT := Lib.hid (fun W (hW : Below w.heap.size w W) => specTreeOk_any A n c fs W (h.later hW) hs)
  have HKP := Lib.hid (fun W (hW : Below w.heap.size w W) => l03Place_any nm S m q ss W hnm (h'.later hW) hm hz)
  have HKU := Lib.hid (fun W (hW : Below w.heap.size w W) => l03Kill_any A n c fs nm S m q ss W (h.later hW) hs (h'.later hW) hm)
  have HB : Hid (killNodeB fs nm ss = if (treeB fs && thingB nm ss) = true then killB fs nm ss else []) := rfl
  clear h h' hs hz
  generalize killNodeB fs nm ss = PB at *
  generalize killB fs nm ss = PU at *
  generalize treeB fs = t0 at *
  generalize thingB nm ss = t1 at *
  go_enter Tryz.func97, Tryz.ntmps97
  go_wp2_with fail
  refine (HKT.out _ ((Below.new _ _).later (Below.new _ _))).mono ?_
  rintro e w1 ⟨rfl, hb1⟩
  have HB1 := Lib.hid (((Below.new w _).later (Below.new _ _)).later hb1)
  have HX := Lib.hid (Blk.later (heap_two0 w _ _) hb1 (by simp; omega))
  have HY := Lib.hid (Blk.later (heap_two1 w _ _) hb1 (by simp))
  have px := HX.out.cell 0
  have py := HY.out.cell 0
  have fy := HY.out.frozen 0
  have zy := HY.out.lt
  simp at px py
  clear hb1
  cases t0
  · have HE : Hid (PB = []) := by unfold Hid; rw [HB.out]; rfl
    go_wp2_with fail
    refine bodyPost_ret (v := .agg #[.slice none 0 0]) (by simp [results, Tryz.results97, go_sem, py]) rfl ?_
    exact ⟨_, rfl, by rw [HE.out]; exact nodesO_nil _ _, HB1.out.setCell (show w.heap.size ≤ w.heap.size + 1 by omega) _⟩
  · go_wp2_with fail
    refine (HKP.out _ HB1.out).mono ?_
    rintro e w2 ⟨rfl, rfl⟩
    cases t1
    · have HE : Hid (PB = []) := by unfold Hid; rw [HB.out]; rfl
      go_wp2_with fail
      refine bodyPost_ret (v := .agg #[.slice none 0 0]) (by simp [results, Tryz.results97, go_sem, py]) rfl ?_
      exact ⟨_, rfl, by rw [HE.out]; exact nodesO_nil _ _, HB1.out.setCell (show w.heap.size ≤ w.heap.size + 1 by omega) _⟩
    · have HE : Hid (PB = PU) := by unfold Hid; rw [HB.out]; rfl
      go_wp2_with fail
      refine (HKU.out _ HB1.out).mono ?_
      rintro e w5 ⟨v5, rfl, hN5, hb5⟩
      have HY5 := Lib.hid (HY.out.later hb5 HY.out.lt)
      have HB5 := Lib.hid (HB1.out.later hb5)
      obtain ⟨A5, cap5, rfl, _, _⟩ := hN5.reads
      have HN5 := Lib.hid (hN5.base HB1.out.size)
      have p5 := HY5.out.cell 0
      have f5 := HY5.out.frozen 0
      have z5 := HY5.out.lt
      simp at p5
      clear hb5 hN5 px py fy zy
      go_wp2_with fail
      refine bodyPost_ret (v := .agg #[.slice A5 _ cap5]) (by simp [results, Tryz.results97, go_sem, p5]; try first | exact rfl | exact ⟨rfl, rfl⟩) rfl ?_
      exact ⟨_, rfl, by rw [HE.out]; exact HN5.out.setBlk HY5.out (by decide) (by decide), HB5.out.setCell (show w.heap.size ≤ w.heap.size + 1 by omega) _⟩
end Go.Proofs.YtfpcjhajjejpdaaGreatDoor
