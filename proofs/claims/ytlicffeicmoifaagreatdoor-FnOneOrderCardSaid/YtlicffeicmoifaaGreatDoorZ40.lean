import Derived.Test.YtlicffeicmoifaaGreatDoorZ39
set_option linter.unusedSimpArgs false
namespace Go.Proofs.YtlicffeicmoifaaGreatDoor
open Go.RowKit
set_option linter.unusedVariables false
set_option linter.unusedSimpArgs false
def EvCPost (l : List EvD) (w : World) (e : Ending) (w' : World) : Prop := ∃ v cs, e = .returned v ∧ w'.ownsRow w.heap.size 37 5 v l.length cs ∧ CellsG 5 (evC w) l cs ∧ Below w.heap.size w w'
set_option maxRecDepth 100000 in
set_option maxHeartbeats 4000000 in
theorem l28Events_any (A : Option Addr) (n c : Nat) (fs : List DoD) (w : World) (h : Dos w w.heap.size A n fs) (hn : n ≤ 60) :
 Calls Tryz.prog 42 #[.slice A n c] w (EvCPost (evsD fs) w) := by
 obtain ⟨i0, hi, hz0, hz1, hz2⟩ := info_parts infoEvD
 have Hh := Lib.hid h
 have Hlen := Lib.hid h.1
 clear h
 go_enter Tryz.func42, Tryz.ntmps42
 go_wp2_with fail
 go_loopw [3, 4] (fun v i wr => ∃ (k : Nat) (cs : List Value), k ≤ n ∧ i = .int .i64 k ∧ wr.ownsRow w.heap.size 37 5 v k cs ∧ CellsG 5 (evC w) (evsD (fs.take k)) cs ∧ Below w.heap.size w wr) (fun _ i _ => n - (intOf i).toNat)
 case atStart => exact ⟨0, [], Nat.zero_le _, rfl, by simpa using World.ownsRow_lit (e := 37) (size := 5) w #[] 0 (Nat.le_refl _) (by omega) rfl, by simp [evsD, CellsG], Below.new _ _⟩
 case round =>
  obtain ⟨k, cs, hk, rfl, hown, hcs, hb⟩ := hrel
  have HO := Lib.hid hown
  have HC := Lib.hid hcs
  have HB := Lib.hid hb
  clear hown hcs hb
  by_cases hlt : k < n
  · obtain ⟨b, o, rfl, hbB, hcell⟩ := Hh.out.2 (by omega)
    obtain ⟨c0, c1, c2, c3, c4, c5, k0, k1, k2, k3, k4, k5, hr0, hr⟩ := hcell k hlt
    clear hcell
    have j0 := (HB.out.cell (p := ⟨b, o + k * 6, none⟩) hbB).trans k0
    have j1 := (HB.out.cell (p := ⟨b, o + k * 6 + 1, none⟩) hbB).trans k1
    have j2 := (HB.out.cell (p := ⟨b, o + k * 6 + 2, none⟩) hbB).trans k2
    have j3 := (HB.out.cell (p := ⟨b, o + k * 6 + 3, none⟩) hbB).trans k3
    have j4 := (HB.out.cell (p := ⟨b, o + k * 6 + 4, none⟩) hbB).trans k4
    have j5 := (HB.out.cell (p := ⟨b, o + k * 6 + 5, none⟩) hbB).trans k5
    clear k0 k1 k2 k3 k4 k5
    have hl : k < fs.length := by rw [Hlen.out]; exact hlt
    have HT := Lib.hid (evsD_snoc hl)
    generalize fs.getD k default = d at *
    have HE : Hid (evC w [c1, c2, c3, c4, c5] d.ev) := ⟨c1, c2, c3, c4, c5, rfl, hr⟩
    clear hl
    obtain ⟨rfl, rfl, ⟨S, m, q, rfl, hs, hmq⟩, rfl, rfl⟩ := hr
    subst hr0
    clear hs
    have hbw : w.heap.size ≤ wr.heap.size := HB.out.size
    have hrow : Hid (∀ o, (wr.alloc o).ownsRow w.heap.size 37 5 u3 k cs) := fun o => Own.own_later HO.out (Below.new _ _)
    go_wp2_with (at_builtin; refine wpList_append_own _ rfl (.tmp 12) (.tmp 18) 83 rfl w.heap.size 37 i0 _ 5 72 Tryz.underlying83 hi hz0 hz1 hz2 rfl (by decide) _ k _ rfl (hrow.out _) ⟨_, 0, none⟩ 1 1 [.int .i64 d.ev.kind, .string d.ev.name, .slice S m q, .string d.ev.val, .int .i64 d.ev.n] rfl rfl ?c1 ?c2 ?c3 ?c4 ?c5 ?_)
    case c1 => exact cells_newN _ #[.int .i64 d.ev.kind, .string d.ev.name, .slice S m q, .string d.ev.val, .int .i64 d.ev.n] _
    case c2 => simp [Value.oneCell']
    case c3 => unfold maxLen; omega
    case c4 => omega
    case c5 => first | omega | (simp; omega)
    intro v1 w2 hown1 hg1 _
    have HBN := Lib.hid (below_own (w0 := w) (HB.out.later (Below.new _ _)) (hrow.out _) (Nat.le_refl _) hg1)
    go_wp2_with fail
    go_roundw
    case rel => exact ⟨k + 1, _, by omega, by go_num, hown1, by rw [HT.out]; exact CellsG.snoc HE.out rfl HC.out, HBN.out⟩
    case measure => simp [intOf]; omega
  · obtain rfl : k = n := by omega
    have HE : Hid (fs.take k = fs) := List.take_of_length_le (by rw [Hlen.out]; exact Nat.le_refl _)
    go_wp2_with fail
    go_ret
    exact ⟨_, cs, rfl, by unfold evsD; rw [List.length_map, Hlen.out]; exact HO.out, by have h := HC.out; rw [HE.out] at h; exact h, HB.out⟩
set_option maxRecDepth 100000 in
set_option maxHeartbeats 8000000 in
theorem specPlay_any (A : Option Addr) (n c : Nat) (L : Option Addr) (m q : Nat) (fs : List NodeD) (l : List DoD) (w : World) (hN : Nodes w w.heap.size A n fs) (hnc : n ≤ c) (hs : smallNs fs) (hcl : cleanT fs) (hL : Dos w w.heap.size L m l) (hok : okDs l) (hce : cleanEs (evsD l)) :
 Calls Tryz.prog 10 #[.agg #[.slice A n c], .slice L m q] w (ReplPost (playB fs l) w) := by
 obtain ⟨WB, hWB⟩ : ∃ WB, WB = (w.alloc (.cells #[.slice A n c] 26)).alloc (.cells #[.slice none 0 0] 26) := ⟨_, rfl⟩
 have HB0 : Hid (Below w.heap.size w WB) := by subst hWB; exact (Below.new _ _).later (Below.new _ _)
 have HX0 : Hid (Blk WB w.heap.size 26 #[.slice A n c]) := by subst hWB; exact heap_two0 _ _ _
 have HY0 : Hid (Blk WB (w.heap.size + 1) 26 #[.slice none 0 0]) := by subst hWB; exact heap_two1 _ _ _
 have HNX : Hid (∀ W, Below WB.heap.size WB W → Nodes W W.heap.size A n fs) := fun W hW => hN.later (HB0.out.later hW)
 have HEV : Hid (∀ W, Below WB.heap.size WB W → Dos W W.heap.size L m l) := fun W hW => hL.later (HB0.out.later hW)
 have HK1 := Lib.hid (fun W (hW : Below WB.heap.size WB W) => specTreeOk_any A n c fs W (HNX.out W hW) hs)
 have HK2 := Lib.hid (fun W (hW : Below WB.heap.size WB W) => specDoingsOk_any L m q l W (HEV.out W hW) hok)
 have HKE := Lib.hid (fun (hn : doingsB l = true) W (hW : Below WB.heap.size WB W) => l28Events_any L m q l W (HEV.out W hW) (by rw [← hL.1]; exact (doings_all hn).1))
 have hml := hL.1
 have HK3 := Lib.hid (fun (ht : treeB fs = true) (hn : doingsB l = true) L' q' W (hW : Below WB.heap.size WB W) (hE : Evs W W.heap.size L' m (evsD l)) => l25Replay_any A n c L' m q' fs (evsD l) W (HNX.out W hW) hnc ht hcl hE (by rw [← hml]; exact (doings_all hn).1) (fun e he => ⟨(notes_all (doings_notes hn)).2 e he, ((okDs_evs hok).2 e he).1, hce e he⟩))
 have HSM := Lib.hid (fun (ht : treeB fs = true) (hn : doingsB l = true) => rep_tsmall (fs := fs) (l := evsD l) ht (doings_notes hn))
 have HR : Hid (playB fs l = if (treeB fs && doingsB l) = true then repB fs (evsD l) 0 else (1, 0, [])) := rfl
 have hlen : (evsD l).length = m := by unfold evsD; rw [List.length_map]; exact hL.1
 have hnc' := hnc
 clear hN hs hcl hL hok hce
 generalize playB fs l = PB at *
 generalize repB fs (evsD l) 0 = RB at *
 generalize treeB fs = x at *
 generalize doingsB l = y at *
 generalize evsD l = es at *
 obtain ⟨code, at_, gs⟩ := RB
 have x0 := HX0.out.cell 0
 simp at x0
 go_enter Tryz.func10, Tryz.ntmps10
 go_wp2_with fail
 rw [← hWB]
 clear hWB
 refine (HK1.out _ (Below.refl _ _)).mono ?_
 rintro e w1 ⟨rfl, hb1⟩
 have HB1 := Lib.hid hb1
 have HX1 := Lib.hid (HX0.out.later hb1 HX0.out.lt)
 have HY1 := Lib.hid (HY0.out.later hb1 HY0.out.lt)
 have HBW1 := Lib.hid (HB0.out.later hb1)
 clear hb1 HK1 x0
 have px := HX1.out.cell 0
 have py := HY1.out.cell 0
 have fy := HY1.out.frozen 0
 have zy := HY1.out.lt
 simp at px py
 cases x
 · have HE : Hid (PB = (1, 0, [])) := by unfold Hid; rw [HR.out]; rfl
   go_wp2_with fail
   refine bodyPost_ret (v := .tuple #[.agg #[.slice none 0 0], .int .i64 0, .int .i64 1]) (by simp [results, Tryz.results10, go_sem, py]; try first | exact rfl | exact ⟨rfl, rfl⟩) rfl ?_
   exact ⟨_, by rw [HE.out]; rfl, by rw [HE.out]; exact nodesW_nil _ _, HBW1.out.setCell (show w.heap.size ≤ w.heap.size + 1 by omega) _⟩
 rw [Bool.true_and] at HR
 go_wp2_with fail
 refine (HK2.out _ HB1.out).mono ?_
 rintro e w2 ⟨rfl, hb2⟩
 have HB2 := Lib.hid (HB1.out.later hb2)
 have HX2 := Lib.hid (HX1.out.later hb2 HX1.out.lt)
 have HY2 := Lib.hid (HY1.out.later hb2 HY1.out.lt)
 have HBW2 := Lib.hid (HB0.out.later HB2.out)
 clear hb2 HK2 px py fy zy
 have px := HX2.out.cell 0
 have py := HY2.out.cell 0
 have fy := HY2.out.frozen 0
 have zy := HY2.out.lt
 simp at px py
 cases y
 · have HE : Hid (PB = (1, 0, [])) := by unfold Hid; rw [HR.out]; rfl
   go_wp2_with fail
   refine bodyPost_ret (v := .tuple #[.agg #[.slice none 0 0], .int .i64 0, .int .i64 1]) (by simp [results, Tryz.results10, go_sem, py]; try first | exact rfl | exact ⟨rfl, rfl⟩) rfl ?_
   exact ⟨_, by rw [HE.out]; rfl, by rw [HE.out]; exact nodesW_nil _ _, HBW2.out.setCell (show w.heap.size ≤ w.heap.size + 1 by omega) _⟩
 rw [if_pos rfl] at HR
 have HKE' := Lib.hid (HKE.out (by first | rfl | trivial))
 have HK3' := Lib.hid (HK3.out (by first | rfl | trivial) (by first | rfl | trivial))
 have hgs := HSM.out (by first | rfl | trivial) (by first | rfl | trivial)
 try dsimp only at hgs
 clear HK3 HSM HKE
 have hx2l : w.heap.size < w2.heap.size := HX2.out.lt
 have hne8 : w.heap.size ≠ w2.heap.size := by have := HB2.out.size; omega
 have HBS2 := Lib.hid (Nat.le_trans HB0.out.size HB2.out.size)
 go_wp2_with fail
 go_region_law (first
  | (go_simp
     go_at_call 42
     refine (HKE'.out _ (by exact HB2.out.drew)).mono ?_
     rintro e v2 ⟨ev, cs, rfl, hrow, hcs, hbe'⟩
     rw [hlen] at hrow
     obtain ⟨A2, cap2, rfl, hcap2, hEv⟩ := evs_of_row hrow hlen hcs hbe'
     have hbe := undrew hbe'
     have HBE := Lib.hid (HB2.out.later hbe)
     have HEv := Lib.hid hEv
     have HX3 := Lib.hid (HX2.out.later hbe HX2.out.lt)
     have px3 := HX3.out.cell 0
     have hxv := HX3.out.lt
     simp at px3
     clear hrow hcs hbe hbe' hEv)
  | (go_simp
     go_at_call 42
     refine (HKE'.out _ (by exact (HB2.out.later (Below.new _ (.cells #[.slice none 0 0] 26))).drew)).mono ?_
     rintro e v2 ⟨ev, cs, rfl, hrow, hcs, hbe'⟩
     rw [hlen] at hrow
     obtain ⟨A2, cap2, rfl, hcap2, hEv⟩ := evs_of_row hrow hlen hcs hbe'
     have hbe := undrew hbe'
     have HBE := Lib.hid ((HB2.out.later (Below.new _ (.cells #[.slice none 0 0] 26))).later hbe)
     have HEv := Lib.hid hEv
     have HX3 := Lib.hid ((HX2.out.alloc (.cells #[.slice none 0 0] 26)).later hbe (by have := HX2.out.lt; simp; omega))
     have px3 := HX3.out.cell 0
     have hxv := HX3.out.lt
     have h8 : Blk v2 w2.heap.size 26 #[.slice none 0 0] := Blk.later (heap_alloc_new w2 _) hbe (by simp)
     have p8 := h8.cell 0
     have f8 := h8.frozen 0
     have z8 := h8.lt
     simp at px3 p8
     have H8 := Lib.hid h8
     clear hrow hcs hbe hbe' hEv h8)
  | (go_simp
     go_at_call 41
     refine (HK3'.out A2 cap2 _ (by exact HBE.out) (by exact HEv.out)).mono ?_
     rintro e w3 ⟨v, rfl, htw, hb3⟩
     have h9 := Blk.later H8.out hb3 H8.out.lt
     clear p8 f8 z8
     have p9 := h9.cell 0
     have f9 := h9.frozen 0
     have z9 := h9.lt
     simp at p9
     dsimp only at htw
     have hbx := (HBE.out.later hb3).setCell (p := ⟨w2.heap.size, 0, none⟩) HB2.out.size v
     obtain ⟨A3, cap3, rfl, hc3, hN3⟩ := (htw.setBlk (i := 0) (u := v) h9 (by decide) (by decide)).reads (HNX.out WB (Below.refl _ _)) hnc hbx
     have HQ : Hid (Blk (w3.setCell ⟨w2.heap.size, 0, none⟩ (.slice A3 gs.length cap3)) w2.heap.size 26 #[.slice A3 gs.length cap3]) := h9.set_ 0 _
     have HBV : Hid (Below WB.heap.size WB (w3.setCell ⟨w2.heap.size, 0, none⟩ (.slice A3 gs.length cap3))) := (HBE.out.later hb3).setCell (p := ⟨w2.heap.size, 0, none⟩) HB2.out.size _
     have HNV : Hid (Nodes (w3.setCell ⟨w2.heap.size, 0, none⟩ (.slice A3 gs.length cap3)) (w3.setCell ⟨w2.heap.size, 0, none⟩ (.slice A3 gs.length cap3)).heap.size A3 gs.length gs) := hN3
     clear htw hb3 hN3 h9 hbx)
  | (go_simp
     go_at_call 41
     refine (HK3'.out A2 cap2 _ (by exact HBE.out) (by exact HEv.out)).mono ?_
     rintro e w3 ⟨v, rfl, htw, hb3⟩
     dsimp only at htw
     obtain ⟨A3, cap3, rfl, hc3, hN3⟩ := htw.reads (HNX.out _ HBE.out) hnc hb3
     have HQ : Hid (Blk (w3.alloc (.cells #[.slice A3 gs.length cap3] 26)) w3.heap.size 26 #[.slice A3 gs.length cap3]) := heap_alloc_new _ _
     have HBV : Hid (Below WB.heap.size WB (w3.alloc (.cells #[.slice A3 gs.length cap3] 26))) := (HBE.out.later hb3).later (Below.new _ _)
     have HNV : Hid (Nodes (w3.alloc (.cells #[.slice A3 gs.length cap3] 26)) (w3.alloc (.cells #[.slice A3 gs.length cap3] 26)).heap.size A3 gs.length gs) := hN3.later (Below.new _ _)
     clear htw hb3 hN3)
  | (go_simp
     go_at_call 41
     refine (HK3'.out A2 cap2 _ (by exact HBE.out.later (Below.new _ (.cells #[.slice none 0 0] 26))) (by exact HEv.out.later (Below.new _ (.cells #[.slice none 0 0] 26)))).mono ?_
     rintro e w3 ⟨v, rfl, htw, hb3⟩
     have h9 : Blk w3 v2.heap.size 26 #[.slice none 0 0] := Blk.later (heap_alloc_new v2 _) hb3 (by simp)
     have p9 := h9.cell 0
     have f9 := h9.frozen 0
     have z9 := h9.lt
     simp at p9
     dsimp only at htw
     have hbx := ((HBE.out.later (Below.new _ (.cells #[.slice none 0 0] 26))).later hb3).setCell (p := ⟨v2.heap.size, 0, none⟩) HBE.out.size v
     obtain ⟨A3, cap3, rfl, hc3, hN3⟩ := (htw.setBlk (i := 0) (u := v) h9 (by decide) (by decide)).reads (HNX.out WB (Below.refl _ _)) hnc hbx
     have HQ : Hid (Blk (w3.setCell ⟨v2.heap.size, 0, none⟩ (.slice A3 gs.length cap3)) v2.heap.size 26 #[.slice A3 gs.length cap3]) := h9.set_ 0 _
     have HBV : Hid (Below WB.heap.size WB (w3.setCell ⟨v2.heap.size, 0, none⟩ (.slice A3 gs.length cap3))) := ((HBE.out.later (Below.new _ (.cells #[.slice none 0 0] 26))).later hb3).setCell (p := ⟨v2.heap.size, 0, none⟩) HBE.out.size _
     have HNV : Hid (Nodes (w3.setCell ⟨v2.heap.size, 0, none⟩ (.slice A3 gs.length cap3)) (w3.setCell ⟨v2.heap.size, 0, none⟩ (.slice A3 gs.length cap3)).heap.size A3 gs.length gs) := hN3
     clear htw hb3 hN3 h9 hbx))
 all_goals
  have q8 := HQ.out.cell 0
  have z8' := HQ.out.lt
  simp at q8
  have HKT := Lib.hid (l25Tree_any A3 gs.length cap3 gs _ HNV.out hgs)
  clear HNV HKE' HK3' HBE HEv
  go_wp2_with fail
  refine HKT.out.mono ?_
  rintro e w4 ⟨v4, rfl, hn4, hb4⟩
  obtain ⟨A4, cap4, rfl, _, _⟩ := hn4.reads
  have HB4 := Lib.hid (HB0.out.later (HBV.out.later hb4))
  have HN4 := Lib.hid (hn4.W.base (Nat.le_trans HB0.out.size HBV.out.size))
  have HY4 := Lib.hid (HY0.out.later (HBV.out.later hb4) HY0.out.lt)
  clear hn4 hb4 HKT q8 z8'
  have py := HY4.out.cell 0
  have fy := HY4.out.frozen 0
  have zy := HY4.out.lt
  simp at py
  go_wp2_with fail
  refine bodyPost_ret (v := .tuple #[.agg #[.slice A4 gs.length cap4], .int .i64 at_, .int .i64 code]) (by simp [results, Tryz.results10, go_sem, py]; try first | exact rfl | exact ⟨rfl, rfl⟩) rfl ?_
  exact ⟨_, by rw [HR.out], by rw [HR.out]; exact HN4.out.setBlk HY4.out (by decide) (by decide), HB4.out.setCell (show w.heap.size ≤ w.heap.size + 1 by omega) _⟩
end Go.Proofs.YtlicffeicmoifaaGreatDoor
namespace Go.Proofs.YtlicffeicmoifaaGreatDoor
open Go.RowKit
set_option linter.unusedVariables false
set_option linter.unusedSimpArgs false
set_option maxRecDepth 100000 in
set_option maxHeartbeats 8000000 in
theorem PlayDoings_any (A : Option Addr) (n c : Nat) (L : Option Addr) (m q : Nat) (fs : List NodeD) (l : List DoD) (w : World) (htab : tabT w) (hN : Nodes w w.heap.size A n fs) (hs : smallNs fs) (hcl : cleanT fs) (hL : Dos w w.heap.size L m l) (hok : okDs l) (hce : cleanEs (evsD l)) :
 Calls Tryz.prog 9 #[.agg #[.slice A n c], .slice L m q] w (ReplPost (playB fs l) w) := by
 obtain ⟨i0, hi, hz0, hz1, hz2⟩ := info_parts infoEvD
 obtain ⟨WB, hWB⟩ : ∃ WB, WB = (w.alloc (.cells #[.slice A n c] 26)).alloc (.cells #[.slice none 0 0] 26) := ⟨_, rfl⟩
 have HB0 : Hid (Below w.heap.size w WB) := by subst hWB; exact (Below.new _ _).later (Below.new _ _)
 have HX0 : Hid (Blk WB w.heap.size 26 #[.slice A n c]) := by subst hWB; exact heap_two0 _ _ _
 have HY0 : Hid (Blk WB (w.heap.size + 1) 26 #[.slice none 0 0]) := by subst hWB; exact heap_two1 _ _ _
 have HNX : Hid (∀ W, Below WB.heap.size WB W → Nodes W W.heap.size A n fs) := fun W hW => hN.later (HB0.out.later hW)
 have HEV : Hid (∀ W, Below WB.heap.size WB W → Dos W W.heap.size L m l) := fun W hW => hL.later (HB0.out.later hW)
 have HTT : Hid (∀ W, Below WB.heap.size WB W → tabT W) := fun W hW => tab_later htab (HB0.out.later hW)
 have HK1 := Lib.hid (fun W (hW : Below WB.heap.size WB W) => TreeOk_any A n c fs W (HNX.out W hW) (HTT.out W hW) hs)
 have HK2 := Lib.hid (fun W (hW : Below WB.heap.size WB W) => DoingsOk_any L m q l W (HTT.out W hW) (HEV.out W hW) hok)
 have HK3 := Lib.hid (fun L' q' W (hW : Below WB.heap.size WB W) (hE : Evs W W.heap.size L' m (evsD l)) => Replay_any A n c L' m q' fs (evsD l) W (HTT.out W hW) (HNX.out W hW) hs hcl hE (okDs_evs hok) hce)
 have HRD := Lib.hid (fun (ht : treeB fs = true) (hn : doingsB l = true) => repl_doings (fs := fs) (l := l) ht hn)
 have HR : Hid (playB fs l = if (treeB fs && doingsB l) = true then repB fs (evsD l) 0 else (1, 0, [])) := rfl
 have hlen : (evsD l).length = m := by unfold evsD; rw [List.length_map]; exact hL.1
 have HLL := Lib.hid hL.1
 have HM60 := Lib.hid (fun (hn : doingsB l = true) => by have h := (doings_all hn).1; rw [hL.1] at h; exact h)
 clear hN hs hcl hL hok hce htab
 generalize playB fs l = PB at *
 generalize repB fs (evsD l) 0 = RB at *
 generalize replB fs (evsD l) = RC at *
 generalize treeB fs = x at *
 generalize doingsB l = y at *
 obtain ⟨code, at_, gs⟩ := RB
 have x0 := HX0.out.cell 0
 simp at x0
 go_enter Tryz.func9, Tryz.ntmps9
 go_wp2_with fail
 rw [← hWB]
 clear hWB
 refine (HK1.out _ (Below.refl _ _)).mono ?_
 rintro e w1 ⟨rfl, hb1⟩
 have HB1 := Lib.hid hb1
 have HX1 := Lib.hid (HX0.out.later hb1 HX0.out.lt)
 have HY1 := Lib.hid (HY0.out.later hb1 HY0.out.lt)
 have HBW1 := Lib.hid (HB0.out.later hb1)
 clear hb1 HK1 x0
 have px := HX1.out.cell 0
 have py := HY1.out.cell 0
 have fy := HY1.out.frozen 0
 have zy := HY1.out.lt
 simp at px py
 cases x
 · have HE : Hid (PB = (1, 0, [])) := by unfold Hid; rw [HR.out]; rfl
   go_wp2_with fail
   refine bodyPost_ret (v := .tuple #[.agg #[.slice none 0 0], .int .i64 0, .int .i64 1]) (by simp [results, Tryz.results9, go_sem, py]; try first | exact rfl | exact ⟨rfl, rfl⟩) rfl ?_
   exact ⟨_, by rw [HE.out]; rfl, by rw [HE.out]; exact nodesW_nil _ _, HBW1.out.setCell (show w.heap.size ≤ w.heap.size + 1 by omega) _⟩
 rw [Bool.true_and] at HR
 go_wp2_with fail
 refine (HK2.out _ HB1.out).mono ?_
 rintro e w2 ⟨rfl, hb2⟩
 have HB2 := Lib.hid (HB1.out.later hb2)
 have HX2 := Lib.hid (HX1.out.later hb2 HX1.out.lt)
 have HY2 := Lib.hid (HY1.out.later hb2 HY1.out.lt)
 have HBW2 := Lib.hid (HB0.out.later HB2.out)
 clear hb2 HK2 px py fy zy
 have px := HX2.out.cell 0
 have py := HY2.out.cell 0
 have fy := HY2.out.frozen 0
 have zy := HY2.out.lt
 simp at px py
 cases y
 · have HE : Hid (PB = (1, 0, [])) := by unfold Hid; rw [HR.out]; rfl
   go_wp2_with fail
   refine bodyPost_ret (v := .tuple #[.agg #[.slice none 0 0], .int .i64 0, .int .i64 1]) (by simp [results, Tryz.results9, go_sem, py]; try first | exact rfl | exact ⟨rfl, rfl⟩) rfl ?_
   exact ⟨_, by rw [HE.out]; rfl, by rw [HE.out]; exact nodesW_nil _ _, HBW2.out.setCell (show w.heap.size ≤ w.heap.size + 1 by omega) _⟩
 rw [if_pos rfl] at HR
 have hm60 := HM60.out (by first | rfl | trivial)
 have HRD' := Lib.hid (HRD.out (by first | rfl | trivial) (by first | rfl | trivial))
 clear HRD HM60 px py fy zy HX1 HY1 HBW1 HB1
 have hxl : w.heap.size < w2.heap.size := HX2.out.lt
 go_wp2_with fail
 go_loopw [7, 22] (fun v i wr => ∃ (k : Nat) (cs : List Value), k ≤ m ∧ i = .int .i64 k ∧ wr.ownsRow w2.heap.size 37 5 v k cs ∧ CellsG 5 (evC w2) (evsD (l.take k)) cs ∧ Below w2.heap.size w2 wr) (fun _ i _ => m - (intOf i).toNat)
 case atStart => exact ⟨0, [], Nat.zero_le _, rfl, by simpa using World.ownsRow_lit (e := 37) (size := 5) w2 #[] 0 (Nat.le_refl _) (by omega) rfl, by simp [evsD, CellsG], Below.new _ _⟩
 case round =>
  obtain ⟨k, cs, hk, rfl, hown, hcs, hb⟩ := hrel
  have HO := Lib.hid hown
  have HC := Lib.hid hcs
  have HB := Lib.hid hb
  clear hown hcs hb
  by_cases hlt : k < m
  · obtain ⟨b, o, S, m1, q1, rfl, hat⟩ := dos_at (HEV.out w2 HB2.out) hlt
    obtain ⟨hd, hr⟩ := hat w2 (Below.refl _ _)
    obtain ⟨⟨j0, j1, j2, j3, j4, j5⟩, _⟩ := hat wr HB.out
    have hl : k < l.length := by rw [HLL.out]; exact hlt
    have HT := Lib.hid (evsD_snoc hl)
    generalize l.getD k default = d at *
    have HE : Hid (evC w2 [.int .i64 d.ev.kind, .string d.ev.name, .slice S m1 q1, .string d.ev.val, .int .i64 d.ev.n] d.ev) := ⟨_, _, _, _, _, rfl, hr⟩
    clear hl hd hr hat
    have hbw : w2.heap.size ≤ wr.heap.size := HB.out.size
    have hki : (k : Int) < (m : Int) := by omega
    have hrow : Hid (∀ o o', ((wr.alloc o).alloc o').ownsRow w2.heap.size 37 5 u7 k cs) := fun o o' => Own.own_later (Own.own_later HO.out (Below.new _ _)) (Below.new _ _)
    have HBA : Hid (∀ o o', Below w2.heap.size w2 ((wr.alloc o).alloc o')) := fun o o' => (HB.out.later (Below.new _ _)).later (Below.new _ _)
    go_wp2_with (at_builtin; refine wpList_append_own _ rfl (.tmp 26) (.tmp 29) 83 rfl w2.heap.size 37 i0 _ 5 72 Tryz.underlying83 hi hz0 hz1 hz2 rfl (by decide) _ k _ rfl (hrow.out _ _) ⟨_, 0, none⟩ 1 1 [.int .i64 d.ev.kind, .string d.ev.name, .slice S m1 q1, .string d.ev.val, .int .i64 d.ev.n] rfl rfl ?c1 ?c2 ?c3 ?c4 ?c5 ?_)
    case c1 => exact cells_newG (cs := #[.int .i64 d.ev.kind, .string d.ev.name, .slice S m1 q1, .string d.ev.val, .int .i64 d.ev.n]) (by simp)
    case c2 => simp [Value.oneCell']
    case c3 => unfold maxLen; omega
    case c4 => omega
    case c5 => first | omega | (simp; omega)
    intro v1 w3 hown1 hg1 _
    have HBN := Lib.hid (below_own (w0 := w2) (HBA.out _ _) (hrow.out _ _) (Nat.le_refl _) hg1)
    go_wp2_with fail
    go_roundw
    case rel => exact ⟨k + 1, _, by omega, by go_num, hown1, by rw [HT.out]; exact CellsG.snoc HE.out rfl HC.out, HBN.out⟩
    case measure => simp [intOf]; omega
  · obtain rfl : k = m := by omega
    have HE : Hid (l.take k = l) := List.take_of_length_le (by rw [HLL.out]; exact Nat.le_refl _)
    obtain ⟨A2, cap2, rfl, hcap2, hEv⟩ := evs_of_row HO.out hlen (by have h := HC.out; rw [HE.out] at h; exact h) HB.out
    have HB3 := Lib.hid (HB2.out.later HB.out)
    have HX3 := Lib.hid (HX2.out.later HB.out HX2.out.lt)
    have HY3 := Lib.hid (HY2.out.later HB.out HY2.out.lt)
    have HK4 := Lib.hid (HK3.out A2 cap2 wr HB3.out hEv)
    have HBW3 := Lib.hid (HB0.out.later HB3.out)
    have px := HX3.out.cell 0
    have hki : ¬ (k : Int) < (k : Int) := by omega
    simp at px
    clear hEv HK3 HO HC HE
    rw [HRD'.out] at HK4
    go_wp2_with fail
    refine HK4.out.mono ?_
    rintro e w4 ⟨v4, rfl, hn4, hb4⟩
    dsimp only at hn4 ⊢
    obtain ⟨A4, cap4, rfl, _, _⟩ := hn4.reads
    have HB4 := Lib.hid (HBW3.out.later hb4)
    have hbz := HBW3.out.size
    have HN4 := Lib.hid (hn4.base (show w.heap.size ≤ wr.heap.size by omega))
    have HY4 := Lib.hid (HY3.out.later hb4 HY3.out.lt)
    clear hn4 hb4 HK4 px
    have py := HY4.out.cell 0
    have fy := HY4.out.frozen 0
    have zy := HY4.out.lt
    simp at py
    go_wp2_with fail
    refine bodyPost_ret (v := .tuple #[.agg #[.slice A4 gs.length cap4], .int .i64 at_, .int .i64 code]) (by simp [results, Tryz.results9, go_sem, py]; try first | exact rfl | exact ⟨rfl, rfl⟩) rfl ?_
    exact ⟨_, by rw [HR.out], by rw [HR.out]; exact HN4.out.setBlk HY4.out (by decide) (by decide), HB4.out.setCell (show w.heap.size ≤ w.heap.size + 1 by omega) _⟩
end Go.Proofs.YtlicffeicmoifaaGreatDoor
