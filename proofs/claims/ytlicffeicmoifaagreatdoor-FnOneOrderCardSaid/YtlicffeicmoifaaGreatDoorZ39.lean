import Derived.Test.YtlicffeicmoifaaGreatDoorZ38
import Derived.Test.YtlicffeicmoifaaGreatDoorZ33
import Derived.Test.YtlicffeicmoifaaGreatDoorZ30
import Derived.Test.YtlicffeicmoifaaGreatDoorZ27
import Derived.Test.YtlicffeicmoifaaGreatDoorZ26
set_option linter.unusedSimpArgs false
namespace Go.Proofs.YtlicffeicmoifaaGreatDoor
open Go.RowKit
set_option linter.unusedVariables false
def ReplPost (r : Int × Nat × List NodeD) (w : World) (e : Ending) (w' : World) : Prop := ∃ v, e = .returned (.tuple #[.agg #[v], .int .i64 r.2.1, .int .i64 r.1]) ∧ NodesW w' w.heap.size v r.2.2 ∧ Below w.heap.size w w'
theorem nodesW_nil (w : World) (base : Nat) : NodesW w base (.slice none 0 0) [] := (nodesO_nil w base).W
set_option maxRecDepth 100000 in
set_option maxHeartbeats 8000000 in
theorem Replay_any (A : Option Addr) (n c : Nat) (L : Option Addr) (m q : Nat) (fs : List NodeD) (l : List EvD) (w : World) (htab : tabT w) (hN : Nodes w w.heap.size A n fs) (hs : smallNs fs) (hcl : cleanT fs) (hL : Evs w w.heap.size L m l) (hok : okEs l) (hce : cleanEs l) :
 Calls Tryz.prog 38 #[.agg #[.slice A n c], .slice L m q] w (ReplPost (replB fs l) w) := by
 have HK1 := Lib.hid (fun W (hW : Below w.heap.size w W) => TreeOk_any A n c fs W (hN.later hW) (tab_later htab hW) hs)
 have HK2 := Lib.hid (fun W (hW : Below w.heap.size w W) => notesOk_any L m q l W (tab_later htab hW) (hL.later hW) hok)
 have HK3 := Lib.hid (fun W (hW : Below w.heap.size w W) => copyTree_any A n c fs W (hN.later hW) hs)
 have HTAB := Lib.hid htab
 have HLC := Lib.hid hL
 have HLL := Lib.hid hL.1
 have HAL := Lib.hid hok.2
 have HCE := Lib.hid hce
 have HC0 := Lib.hid hcl
 have HNA := Lib.hid (fun h => notes_all (l := l) h)
 have HR : Hid (replB fs l = if (treeB fs && notesB l) = true then repB fs l 0 else (1, 0, [])) := rfl
 clear htab hN hs hcl hL hok hce
 generalize replB fs l = PB at *
 generalize hx : treeB fs = x at *
 generalize hy : notesB l = y at *
 have HX := Lib.hid hx
 have HY := Lib.hid hy
 clear hx hy
 obtain ⟨WB, hWB⟩ : ∃ WB, WB = (w.alloc (.cells #[.slice A n c] 26)).alloc (.cells #[.slice none 0 0] 26) := ⟨_, rfl⟩
 have HB0 : Hid (Below w.heap.size w WB) := by subst hWB; exact (Below.new _ _).later (Below.new _ _)
 have HX0 : Hid (Blk WB w.heap.size 26 #[.slice A n c]) := by subst hWB; exact heap_two0 _ _ _
 have HY0 : Hid (Blk WB (w.heap.size + 1) 26 #[.slice none 0 0]) := by subst hWB; exact heap_two1 _ _ _
 go_enter Tryz.func38, Tryz.ntmps38
 go_wp2_with fail
 rw [← hWB]
 clear hWB
 refine (HK1.out _ HB0.out).mono ?_
 rintro e w1 ⟨rfl, hb1⟩
 have HB1 := Lib.hid (HB0.out.later hb1)
 have HX1 := Lib.hid (HX0.out.later hb1 HX0.out.lt)
 have HY1 := Lib.hid (HY0.out.later hb1 HY0.out.lt)
 have px := HX1.out.cell 0
 have py := HY1.out.cell 0
 have fy := HY1.out.frozen 0
 have zy := HY1.out.lt
 simp at px py
 clear hb1 HX0 HY0 HB0 HK1
 cases x
 · have HE : Hid (PB = (1, 0, [])) := by unfold Hid; rw [HR.out]; rfl
   go_wp2_with fail
   refine bodyPost_ret (v := .tuple #[.agg #[.slice none 0 0], .int .i64 0, .int .i64 1]) (by simp [results, Tryz.results38, go_sem, py]) rfl ?_
   exact ⟨_, by rw [HE.out]; rfl, by rw [HE.out]; exact nodesW_nil _ _, HB1.out.setCell (show w.heap.size ≤ w.heap.size + 1 by omega) _⟩
 rw [Bool.true_and] at HR
 go_wp2_with fail
 refine (HK2.out _ HB1.out).mono ?_
 rintro e w2 ⟨rfl, hb2⟩
 have HB2 := Lib.hid (HB1.out.later hb2)
 have HX2 := Lib.hid (HX1.out.later hb2 HX1.out.lt)
 have HY2 := Lib.hid (HY1.out.later hb2 HY1.out.lt)
 clear hb2 HX1 HY1 HB1 HK2 px py fy zy
 have px := HX2.out.cell 0
 have py := HY2.out.cell 0
 have fy := HY2.out.frozen 0
 have zy := HY2.out.lt
 simp at px py
 cases y
 · have HE : Hid (PB = (1, 0, [])) := by unfold Hid; rw [HR.out]; rfl
   go_wp2_with fail
   refine bodyPost_ret (v := .tuple #[.agg #[.slice none 0 0], .int .i64 0, .int .i64 1]) (by simp [results, Tryz.results38, go_sem, py]) rfl ?_
   exact ⟨_, by rw [HE.out]; rfl, by rw [HE.out]; exact nodesW_nil _ _, HB2.out.setCell (show w.heap.size ≤ w.heap.size + 1 by omega) _⟩
 rw [if_pos rfl] at HR
 obtain ⟨hm0, hnn0⟩ := HNA.out (by first | trivial | exact HY.out)
 have hm : m ≤ 60 := by rw [← HLL.out]; exact hm0
 have HNN := Lib.hid hnn0
 clear hm0 hnn0
 go_wp2_with fail
 refine (HK3.out _ HB2.out).mono ?_
 rintro e w3 ⟨v3, rfl, hn3, hb3⟩
 have HB3 := Lib.hid (HB2.out.later hb3)
 have HY3 := Lib.hid (HY2.out.later hb3 HY2.out.lt)
 have HN3 := Lib.hid (hn3.W.base HB2.out.size)
 obtain ⟨A3, cap3, rfl, _, _⟩ := hn3.reads
 have hz3 := HY3.out.lt
 have HBX := Lib.hid (Below.new w3 (.cells #[.slice A3 fs.length cap3] 26))
 clear hb3 hn3 px py fy zy HX2 HY2 HB2 HK3 HNA
 go_wp2_with fail
 go_loopw [24] (fun i wr => ∃ (k : Nat) (v : Value) (gs : List NodeD), k ≤ m ∧ i = .int .i64 k ∧ Hid (Blk wr w3.heap.size 26 #[v]) ∧ Hid (Blk wr (w.heap.size + 1) 26 #[.slice none 0 0]) ∧ Hid (NodesW wr w.heap.size v gs) ∧ Hid (treeB gs = true) ∧ Hid (cleanT gs) ∧ Hid (Below w.heap.size w wr) ∧ Hid (PB = repB gs (l.drop k) k)) (fun i _ => m - (intOf i).toNat)
 case atStart => exact ⟨0, _, fs, Nat.zero_le _, rfl, heap_alloc_new w3 _, HY3.out.alloc _, HN3.out.later HBX.out, HX.out, HC0.out, HB3.out.later HBX.out, by unfold Hid; rw [List.drop_zero]; exact HR.out⟩
 case round =>
  obtain ⟨k, v, gs, hk, rfl, HV, HYR, HNW, HTG, HCG, HBW, HPK⟩ := hrel
  obtain ⟨A4, cap4, rfl, hc4, _⟩ := HNW.out.reads
  clear HBX HN3
  by_cases hlt : k < m
  · obtain ⟨bb, o, rfl, hbB, hc⟩ := (HLC.out.later HBW.out).2 (by omega)
    obtain ⟨c0, c1, c2, c3, c4, k0, k1, k2, k3, k4, hr⟩ := hc k hlt
    clear hc
    have hl : k < l.length := by rw [HLL.out]; exact hlt
    obtain ⟨hsd, hov⟩ := HAL.out _ (getD_memQ l k hl)
    have hce := HCE.out _ (getD_memQ l k hl)
    have hnote := HNN.out _ (getD_memQ l k hl)
    have hda := drop_consQ l k hl
    generalize l.getD k default = d at *
    have HDA : Hid (PB = if (applyB gs d).1 = 0 then repB (applyB gs d).2 (l.drop (k + 1)) (k + 1) else ((applyB gs d).1, k, [])) := by unfold Hid; rw [HPK.out, hda]; rfl
    have HDT : Hid ((applyB gs d).1 = 0 → treeB (applyB gs d).2 = true) := apply_tree HTG.out hnote
    have HDC : Hid (cleanT (applyB gs d).2) := clean_apply HCG.out hce
    have HKA := Lib.hid (fun W (hW : Below wr.heap.size wr W) => apply_any w3.heap.size w.heap.size (.slice A4 gs.length cap4) gs c0 c1 c2 c3 c4 d W (tab_later HTAB.out (HBW.out.later hW)) (HV.out.later hW HV.out.lt) (HNW.out.later hW) (Nat.le_trans HBW.out.size hW.size) HTG.out HCG.out (hr.later hW) hsd hnote)
    clear hda hsd hov hnote hce
    generalize applyB gs d = R at *
    obtain ⟨r1, r2⟩ := R
    obtain ⟨rfl, rfl, ⟨S, m1, q1, rfl, _, _⟩, rfl, rfl⟩ := hr
    go_wp2_with fail
    refine (HKA.out _ (Below.new _ _)).mono ?_
    rintro e w5 ⟨rfl, hp5⟩
    have HP5 := Lib.hid (hp5.lift (Below.new _ _))
    have HB5 : Hid (Below w.heap.size w w5) := Own.Chg.below HBW.out HP5.out.1 (fun g hg => by
     rcases hg with rfl | hg
     · have := HB3.out.size; omega
     · exact (HNW.out.lt _ hg).1) (Nat.le_refl _)
    have HY5 : Hid (Blk w5 (w.heap.size + 1) 26 #[.slice none 0 0]) := Own.Blk.chg HYR.out HP5.out.1 (fun hg => by
     rcases hg with h | hg
     · omega
     · exact HNW.out.off HYR.out (by decide) hg)
    have py := HY5.out.cell 0
    have fy := HY5.out.frozen 0
    have zy := HY5.out.lt
    simp at py
    clear hp5 k0 k1 k2 k3 k4
    by_cases hr0 : r1 = 0
    · have HE2 : Hid (PB = repB r2 (l.drop (k + 1)) (k + 1)) := by unfold Hid; rw [HDA.out, if_pos hr0]
      have HT2 := Lib.hid (HDT.out hr0)
      obtain ⟨v5, hv5, hn5⟩ := HP5.out.2 hr0
      have HV5 := Lib.hid hv5
      have HN5 := Lib.hid hn5
      clear hv5 hn5
      subst hr0
      go_wp2_with fail
      go_roundw
      case rel => exact ⟨k + 1, _, r2, by omega, by go_num, HV5.out, HY5.out, HN5.out, HT2.out, HDC.out, HB5.out, HE2.out⟩
      case measure => simp [intOf]; omega
    · have HE2 : Hid (PB = (r1, k, [])) := by unfold Hid; rw [HDA.out, if_neg hr0]
      have hb0 : (r1 == (0 : Int)) = false := by rw [beq_eq_false_iff_ne]; exact hr0
      go_wp2_with fail
      refine bodyPost_ret (v := .tuple #[.agg #[.slice none 0 0], .int .i64 k, .int .i64 r1]) (by simp [results, Tryz.results38, go_sem, py]) rfl ?_
      exact ⟨_, by rw [HE2.out], by rw [HE2.out]; exact nodesW_nil _ _, HB5.out.setCell (show w.heap.size ≤ w.heap.size + 1 by omega) _⟩
  · obtain rfl : k = m := by omega
    have HE2 : Hid (PB = (0, 0, gs)) := by unfold Hid; rw [HPK.out, List.drop_of_length_le (by rw [HLL.out]; omega)]; rfl
    have pv := HV.out.cell 0
    have py := HYR.out.cell 0
    have fy := HYR.out.frozen 0
    have zy := HYR.out.lt
    simp at pv py
    go_wp2_with fail
    refine bodyPost_ret (v := .tuple #[.agg #[.slice A4 _ cap4], .int .i64 0, .int .i64 0]) (by simp [results, Tryz.results38, go_sem, py]; try first | exact rfl | exact ⟨rfl, rfl⟩) rfl ?_
    exact ⟨_, by rw [HE2.out]; rfl, by rw [HE2.out]; exact HNW.out.setBlk HYR.out (by decide) (by decide), HBW.out.setCell (show w.heap.size ≤ w.heap.size + 1 by omega) _⟩
end Go.Proofs.YtlicffeicmoifaaGreatDoor
namespace Go.Proofs.YtlicffeicmoifaaGreatDoor
open Go.RowKit
set_option linter.unusedVariables false
set_option linter.unusedSimpArgs false
set_option maxRecDepth 100000 in
set_option maxHeartbeats 8000000 in
theorem l25Tree_any (A : Option Addr) (n c : Nat) (fs : List NodeD) (w : World) (h : Nodes w w.heap.size A n fs) (hs : smallNs fs) :
 Calls Tryz.prog 43 #[.agg #[.slice A n c]] w (TreeOnly fs w) := by
 obtain ⟨i0, hi, hz0, hz1, hz2⟩ := info_parts infoNodeD
 have Hh := Lib.hid h
 have Hlen := Lib.hid h.1
 have Hsm := Lib.hid hs.2
 have hn : n ≤ 1048576 := by rw [← h.1]; exact hs.1
 clear h hs
 obtain ⟨WB, hWB⟩ : ∃ WB, WB = ((w.alloc (.cells #[.slice A n c] 26)).alloc (.cells #[.slice none 0 0] 26)).alloc (.cells #[.slice none 0 0] 26) := ⟨_, rfl⟩
 have HB0 : Hid (Below w.heap.size w WB) := by subst hWB; exact below_new3 w _ _ _
 have HA0 : Hid (Blk WB w.heap.size 26 #[.slice A n c]) := by subst hWB; exact heap_new0 _ _ _ _
 have HY0 : Hid (Blk WB (w.heap.size + 1) 26 #[.slice none 0 0]) := by subst hWB; exact heap_new1 _ _ _ _
 have HV0 : Hid (Blk WB (w.heap.size + 1 + 1) 26 #[.slice none 0 0]) := by subst hWB; exact heap_new2 _ _ _ _
 go_enter Tryz.func43, Tryz.ntmps43
 go_wp2_with fail
 rw [← hWB]
 clear hWB
 go_loopw [4] (fun i wr => ∃ (k : Nat) (v : Value), k ≤ n ∧ i = .int .i64 k ∧ Hid (Blk wr w.heap.size 26 #[.slice A n c]) ∧ Hid (Blk wr (w.heap.size + 1) 26 #[.slice none 0 0]) ∧ Hid (Blk wr (w.heap.size + 1 + 1) 26 #[v]) ∧ Hid (NodesO wr w.heap.size v (fs.take k)) ∧ Hid (Below w.heap.size w wr)) (fun i _ => n - (intOf i).toNat)
 case atStart => exact ⟨0, _, Nat.zero_le _, rfl, HA0.out, HY0.out, HV0.out, by unfold Hid; rw [List.take_zero]; exact nodesO_nil _ _, HB0.out⟩
 case round =>
  obtain ⟨k, v, hk, rfl, HA, HY, HV, ⟨vs, ho⟩, HB⟩ := hrel
  have HO := Lib.hid ho
  clear ho HB0 HY0 HV0 HA0
  have x0 := HA.out.cell 0
  simp at x0
  by_cases hlt : k < n
  · have hl : k < fs.length := by rw [Hlen.out]; exact hlt
    obtain ⟨bb, o, rfl, hbB, hcn⟩ := (Hh.out.later HB.out).2 (by omega)
    obtain ⟨c0, c1, c2, k0, k1, k2, hr⟩ := hcn k hlt
    clear hcn
    have hsd := Hsm.out _ (getD_memD fs k hl)
    have HT : Hid (fs.take (k + 1) = fs.take k ++ [fs.getD k default]) := by
     unfold Hid
     rw [List.take_succ_eq_append_getElem hl, List.getD_eq_getElem?_getD, List.getElem?_eq_getElem hl, Option.getD_some]
    have htl : (fs.take k).length = k := by rw [List.length_take]; omega
    have hrw := HO.out.row
    rw [htl] at hrw
    obtain ⟨g, cap, rfl, _, _, _⟩ := Own.own_slice hrw
    have HTL := Lib.hid htl
    clear htl hrw
    generalize fs.getD k default = d at *
    obtain ⟨rfl, ⟨A1, n1, p1, rfl, s1, q1⟩, rfl⟩ := hr
    have hn1 : n1 ≤ 1048576 := by rw [← s1.1]; exact hsd.2.1.1
    have HKS := Lib.hid (fun W (hW : Below wr.heap.size wr W) => l24SubsO_any A1 n1 p1 d.subs W (s1.later hW) hn1)
    generalize hdn : d.name = dn at *
    generalize hdv : d.val = dv at *
    have HDN := Lib.hid hdn
    have HDV := Lib.hid hdv
    clear s1 hsd hdn hdv
    have hki : (k : Int) < (n : Int) := by omega
    have hbBz : bb < wr.heap.size := hbB
    obtain ⟨V, hV⟩ : ∃ V, V = wr.alloc (.cells #[.string dn, .slice A1 n1 p1, .string dv] 89) := ⟨_, rfl⟩
    have HBV : Hid (Below wr.heap.size wr V) := by subst hV; exact Below.new _ _
    have HN5 : Hid (Blk V wr.heap.size 89 #[.string dn, .slice A1 n1 p1, .string dv]) := by subst hV; exact heap_alloc_new _ _
    have HVS : Hid (V.heap.size = wr.heap.size + 1) := by subst hV; unfold Hid; simp
    go_wp2_with fail
    rw [← hV]
    clear hV k0 k1 k2 x0
    refine (HKS.out _ HBV.out).mono ?_
    rintro e w4 ⟨A2, c2, rfl, hq2, hs2, hb4⟩
    have HB4 := Lib.hid (HBV.out.later hb4)
    have HN4 := Lib.hid (HN5.out.later hb4 HN5.out.lt)
    have HV4 := Lib.hid (HV.out.later HB4.out HV.out.lt)
    have HS2 := Lib.hid (Own.own_base hs2 (show wr.heap.size ≤ V.heap.size by rw [HVS.out]; omega))
    clear hb4 hs2 HN5
    have n0 := HN4.out.cell 0
    have n1' := HN4.out.cell 1
    have n2 := HN4.out.cell 2
    have nf := HN4.out.frozen 1
    have nz := HN4.out.lt
    have pv := HV4.out.cell 0
    have fv := HV4.out.frozen 0
    have zv := HV4.out.lt
    have hwz := HB.out.size
    simp at n0 n1' n2 pv
    have hvr := HV.out.lt
    obtain ⟨W5, hW5⟩ : ∃ W5, W5 = (w4.setCell ⟨wr.heap.size, 1, none⟩ (.slice A2 n1 c2)).alloc (.cells #[.string dn, .slice A2 n1 c2, .string dv] 89) := ⟨_, rfl⟩
    have HB5 : Hid (Below wr.heap.size wr W5) := by subst hW5; exact (HB4.out.setCell (p := ⟨wr.heap.size, 1, none⟩) (Nat.le_refl _) _).later (Below.new _ _)
    have HS5 : Hid (Own.SubO W5 w.heap.size (.slice A2 n1 c2) d.subs) := by subst hW5; exact Own.own_later (Own.own_base (Own.SubO.setBlk (u := .slice A2 n1 c2) (i := 1) HS2.out HN4.out (by decide)) hwz) (Below.new _ _)
    have HO5 := Lib.hid (HO.out.later HB5.out)
    have HV5 := Lib.hid (HV.out.later HB5.out HV.out.lt)
    have HOWN : Hid (W5.ownsRow w.heap.size 89 3 (.slice g k cap) k (Own.flat nodeK (fs.take k) vs)) := by
     have h := HO5.out.row
     rw [HTL.out] at h
     exact h
    have hbs : w.heap.size ≤ W5.heap.size := Nat.le_trans hwz HB5.out.size
    have HCN : Hid (∀ j u, (#[.string dn, .slice A2 n1 c2, .string dv] : Array Value).toList[j]? = some u → W5.cell? ((⟨w4.heap.size, 0, none⟩ : Addr).add j) = some u) := by
     subst hW5
     exact cells_newG (w := w4.setCell ⟨wr.heap.size, 1, none⟩ (.slice A2 n1 c2)) (cs := #[.string dn, .slice A2 n1 c2, .string dv]) (by simp)
    go_wp2_with (rw [← hW5]; clear hW5; at_builtin; refine wpList_append_own _ rfl (.tmp 24) (.tmp 26) 24 rfl w.heap.size 89 i0 _ 3 56 Tryz.underlying24 hi hz0 hz1 hz2 rfl (by decide) _ k _ rfl HOWN.out ⟨_, 0, none⟩ 1 1 ((#[.string dn, .slice A2 n1 c2, .string dv] : Array Value).toList) rfl rfl ?c1a ?c2a ?c3a ?c4a ?c5a ?_)
    try (case c1a => first | exact HCN.out | (intro j u hu; have h9 := HCN.out j u hu; rw [add_offN, Nat.zero_add] at h9; exact h9))
    try (case c2a => simp [Value.oneCell'])
    try (case c3a => unfold maxLen; omega)
    try (case c4a => omega)
    try (case c5a => exact hbs)
    intro v5 w5 hown5 hg5 _
    have HN6 := Lib.hid (Own.OwnL.snoc (d := d) HO5.out HS5.out (HO.out.fresh HS2.out (Nat.le_refl _)) (by rw [HTL.out]; first | exact hown5 | (rw [HDN.out, HDV.out]; exact hown5) | (subst dn dv; exact hown5)) (by first | exact hg5 | (rw [HTL.out]; exact hg5)) (by decide))
    have HB6 := Lib.hid ((HB.out.later HB5.out).grown hg5 hbs (fun g' e => (HOWN.out.lt g' e).1))
    have HV6 := Lib.hid (HV5.out.grown hg5 (fun e => Own.own_blk_ne HOWN.out HV5.out (by decide) e.symm))
    have HY6 := Lib.hid ((HY.out.later HB5.out HY.out.lt).grown hg5 (fun e => Own.own_blk_ne HOWN.out (HY.out.later HB5.out HY.out.lt) (by decide) e.symm))
    have HA6 := Lib.hid ((HA.out.later HB5.out HA.out.lt).grown hg5 (fun e => Own.own_blk_ne HOWN.out (HA.out.later HB5.out HA.out.lt) (by decide) e.symm))
    obtain ⟨A6, c6, rfl⟩ : ∃ A6 c6, v5 = .slice A6 (k + 1) c6 := by
     have h6 := HN6.out.row
     obtain ⟨A', c', e, _⟩ := Own.own_slice h6
     rw [List.length_append, HTL.out] at e
     exact ⟨A', c', e⟩
    have r0 := HV6.out.cell 0
    have rf := HV6.out.frozen 0
    have rz := HV6.out.lt
    simp at r0
    clear hown5 hg5 n0 n1' n2 nf nz pv fv zv
    go_wp2_with fail
    go_roundw
    case rel => exact ⟨k + 1, _, by omega, by go_num, HA6.out.far (p := ⟨w.heap.size + 1 + 1, 0, none⟩) (show w.heap.size ≠ w.heap.size + 1 + 1 by omega) _, HY6.out.far (p := ⟨w.heap.size + 1 + 1, 0, none⟩) (show w.heap.size + 1 ≠ w.heap.size + 1 + 1 by omega) _, HV6.out.set_ 0 _, by unfold Hid; rw [HT.out]; exact NodesO.setBlk ⟨_, HN6.out⟩ HV6.out (by decide) (by decide), HB6.out.setCell (p := ⟨w.heap.size + 1 + 1, 0, none⟩) (show w.heap.size ≤ w.heap.size + 1 + 1 by omega) _⟩
    case measure => simp [intOf]; omega
  · obtain rfl : k = n := by omega
    have HE : Hid (fs.take k = fs) := List.take_of_length_le (by rw [Hlen.out]; exact Nat.le_refl _)
    have HOE := HO.out
    rw [HE.out] at HOE
    obtain ⟨A6, n6, c6, rfl⟩ : ∃ A6 n6 c6, v = .slice A6 n6 c6 := by obtain ⟨A', c', e, _⟩ := Own.own_slice HOE.row; exact ⟨_, _, _, e⟩
    have pv := HV.out.cell 0
    have py := HY.out.cell 0
    have fy := HY.out.frozen 0
    have zy := HY.out.lt
    simp at pv py
    have hki : ¬ (k : Int) < (k : Int) := by omega
    go_wp2_with fail
    refine bodyPost_ret (v := .agg #[.slice A6 n6 c6]) (by simp [results, Tryz.results43, go_sem, py]; try first | exact rfl | exact ⟨rfl, rfl⟩) rfl ?_
    exact ⟨_, rfl, NodesO.setBlk ⟨_, HOE⟩ HY.out (by decide) (by decide), HB.out.setCell (show w.heap.size ≤ w.heap.size + 1 by omega) _⟩
theorem rep_tsmall {fs : List NodeD} {l : List EvD} (ht : treeB fs = true) (hn : notesB l = true) : smallNs (repB fs l 0).2.2 := by
 by_cases h0 : (repB fs l 0).1 = 0
 · exact tree_small (rep_tree l fs 0 ht (notes_all hn).2 h0)
 · rw [rep_nil h0]
   exact ⟨by simp, fun d hd => by cases hd⟩
end Go.Proofs.YtlicffeicmoifaaGreatDoor
namespace Go.Proofs.YtlicffeicmoifaaGreatDoor
open Go.RowKit
set_option linter.unusedVariables false
theorem doingB_in (d : DoD) : doingB d = (inB d.job 1 4 && noteB d.ev) := by
 unfold doingB inB
 rw [Bool.decide_and]
set_option maxRecDepth 100000 in
set_option maxHeartbeats 4000000 in
theorem specDoingsOk_any (A : Option Addr) (n c : Nat) (fs : List DoD) (w : World) (h : Dos w w.heap.size A n fs) (hok : okDs fs) :
 Calls Tryz.prog 40 #[.slice A n c] w fun e w' => e = .returned (.bool (doingsB fs)) ∧ Below w.heap.size w w' := by
 have hn : n ≤ 1048576 := by rw [← h.1]; exact hok.1
 have HR : Hid (doingsB fs = (decide (n ≤ 60) && fs.all doingB)) := by unfold Hid doingsB; rw [h.1]
 have Hh := Lib.hid h
 have Hlen := Lib.hid h.1
 have Hok := Lib.hid hok.2
 clear h hok
 generalize doingsB fs = R at *
 by_cases h4 : n ≤ 60
 · have hd : decide (60 < n) = false := decide_eq_false (by omega)
   rw [decide_eq_true h4, Bool.true_and] at HR
   have h4I : ¬ (60 : Int) < (n : Int) := by omega
   have HD := Lib.hid h4
   go_enter Tryz.func40, Tryz.ntmps40
   go_wp2_with fail
   go_loopw [3] (fun i wr => ∃ k : Nat, k ≤ n ∧ i = .int .i64 k ∧ Below w.heap.size w wr ∧ Hid (R = (fs.drop k).all doingB)) (fun i _ => n - (intOf i).toNat)
   case atStart => exact ⟨0, Nat.zero_le _, rfl, Below.refl _ _, HR⟩
   case round =>
    obtain ⟨k, hk, rfl, hb, hS⟩ := hrel
    have HB := Lib.hid hb
    clear hb
    by_cases hlt : k < n
    · obtain ⟨b, o, rfl, hbB, hcell⟩ := (Hh.out.later HB.out).2 (by omega)
      obtain ⟨c0, c1, c2, c3, c4, c5, k0, k1, k2, k3, k4, k5, hr0, hr⟩ := hcell k hlt
      clear hcell
      subst hr0
      have hl : k < fs.length := by rw [Hlen.out]; exact hlt
      have HS := Lib.hid (all_stepQ doingB fs k hl)
      have HE := Lib.hid (doingB_in (fs.getD k default))
      have hoe := Hok.out _ (getD_memQ fs k hl)
      have HK1 := Lib.hid (l24Job_any (fs.getD k default).job wr)
      have HK2 := Lib.hid (specNoteOk_any c1 c2 c3 c4 c5 (fs.getD k default).ev wr hr hoe.1 hoe.2)
      clear hl hr hoe
      generalize doingB (fs.getD k default) = d0 at *
      generalize noteB (fs.getD k default).ev = x at *
      generalize inB (fs.getD k default).job 1 4 = y at *
      generalize (fs.getD k default).job = jb at *
      cases y
      · go_wp2_with fail
        refine HK1.out.mono ?_
        rintro e w' ⟨rfl, rfl⟩
        go_wp2_with fail
        go_ret
        exact ⟨ret_bool (by rw [hS.out, HS.out, HE.out]; rfl), HB.out⟩
      · go_wp2_with fail
        refine HK1.out.mono ?_
        rintro e w' ⟨rfl, rfl⟩
        go_wp2_with fail
        refine HK2.out.mono ?_
        rintro e w' ⟨rfl, hb1⟩
        have HB1 := Lib.hid (HB.out.later hb1)
        clear hb1
        cases x
        · go_wp2_with fail
          go_ret
          exact ⟨ret_bool (by rw [hS.out, HS.out, HE.out]; rfl), HB1.out⟩
        · go_wp2_with fail
          go_roundw
          case rel => exact ⟨k + 1, by omega, by go_num, HB1.out, by unfold Hid; rw [hS.out, HS.out, HE.out, Bool.true_and, Bool.true_and]⟩
          case measure => simp [intOf]; omega
    · have HE : Hid (R = true) := by unfold Hid; rw [hS.out, List.drop_of_length_le (by rw [Hlen.out]; omega)]; rfl
      go_wp2_with fail
      go_ret
      exact ⟨ret_bool HE.out.symm, HB.out⟩
 · have hd : decide (60 < n) = true := decide_eq_true (by omega)
   have h4I : (60 : Int) < (n : Int) := by omega
   rw [decide_eq_false h4, Bool.false_and] at HR
   go_enter Tryz.func40, Tryz.ntmps40
   go_wp2_with fail
   go_ret
   exact ⟨ret_bool HR.out.symm, Below.refl _ _⟩
def PredDoing (g : Nat) (lb : Array Value) (p : DoD → Bool) (fs : List DoD) (w : World) : Prop :=
 ∀ d ∈ fs, ∀ c0 c1 c2 c3 c4 c5 W, Below w.heap.size w W → DoR W W.heap.size c0 c1 c2 c3 c4 c5 d → Calls Tryz.prog g (#[.agg #[c0, c1, c2, c3, c4, c5]] ++ lb) W fun e w' => e = .returned (.bool (p d)) ∧ Below W.heap.size W w'
set_option maxHeartbeats 1000000 in
theorem IndexFuncDoing_any (g : Nat) (lb : Array Value) (p : DoD → Bool) (A : Option Addr) (n c : Nat) (fs : List DoD) (w : World) (h : Dos w w.heap.size A n fs) (hn : n ≤ 1048576)
 (eg : ∀ args w, (callFunc g args).run Tryz.prog w = .ok (.enter g args) w) (hg : PredDoing g lb p fs w) :
 Calls Tryz.prog 177 #[.slice A n c, .func (.func g) #[] lb] w fun e w' => e = .returned (.int .i64 (idxF p fs 0)) ∧ Below w.heap.size w w' := by
 have Hh := Lib.hid h
 have Hlen := Lib.hid h.1
 have Hg := Lib.hid hg
 clear h hg
 go_enter Tryz.func177, Tryz.ntmps177
 go_wp2_with fail
 go_loopw [8] (fun i wr => ∃ k : Nat, k ≤ n ∧ i = .int .i64 k ∧ Below w.heap.size w wr ∧ Hid (idxF p fs 0 = idxF p (fs.drop k) k)) (fun i _ => n - (intOf i).toNat)
 case atStart => exact ⟨0, Nat.zero_le _, rfl, Below.refl _ _, rfl⟩
 case round =>
  obtain ⟨k, hk, rfl, hb, hS⟩ := hrel
  have HB := Lib.hid hb
  clear hb
  by_cases hlt : k < n
  · obtain ⟨b, o, rfl, hbB, hcell⟩ := (Hh.out.later HB.out).2 (by omega)
    obtain ⟨c0, c1, c2, c3, c4, c5, k0, k1, k2, k3, k4, k5, hr⟩ := hcell k hlt
    clear hcell
    have hl : k < fs.length := by rw [Hlen.out]; exact hlt
    have HS := Lib.hid (idxF_step p fs k hl)
    have HK := Lib.hid (Hg.out (fs.getD k default) (getD_memQ fs k hl) c0 c1 c2 c3 c4 c5 wr HB.out hr)
    clear hl hr
    generalize fs.getD k default = s at *
    generalize hx : p s = x at *
    have HX := Lib.hid hx
    clear hx
    go_wp2_with fail
    refine HK.out.mono ?_
    rintro e w' ⟨rfl, hb1⟩
    have HB1 := Lib.hid (HB.out.later hb1)
    clear hb1
    cases x
    · go_wp2_with fail
      go_roundw
      case rel => exact ⟨k + 1, by omega, by go_num, HB1.out, by unfold Hid; rw [hS.out, HS.out]; rfl⟩
      case measure => simp [intOf]; omega
    · go_wp2_with fail
      go_ret
      exact ⟨ret_int (by rw [hS.out, HS.out]; rfl), HB1.out⟩
  · have HE : Hid (idxF p fs 0 = -1) := by unfold Hid; rw [hS.out, List.drop_of_length_le (by rw [Hlen.out]; omega)]; rfl
    go_wp2_with fail
    go_ret
    exact ⟨ret_int HE.out.symm, HB.out⟩
set_option maxHeartbeats 400000 in
theorem ContainsFuncDoing_any (g : Nat) (lb : Array Value) (p : DoD → Bool) (A : Option Addr) (n c : Nat) (fs : List DoD) (w : World) (h : Dos w w.heap.size A n fs) (hn : n ≤ 1048576)
 (eg : ∀ args w, (callFunc g args).run Tryz.prog w = .ok (.enter g args) w) (hg : PredDoing g lb p fs w) :
 Calls Tryz.prog 91 #[.slice A n c, .func (.func g) #[] lb] w fun e w' => e = .returned (.bool (fs.any p)) ∧ Below w.heap.size w w' := by
 have HK := Lib.hid (IndexFuncDoing_any g lb p A n c fs w h hn eg hg)
 have hE := idxF_any p fs 0
 clear h hg eg
 generalize fs.any p = R at *
 generalize idxF p fs 0 = x at *
 have HE := Lib.hid hE
 clear hE
 go_enter Tryz.func91, Tryz.ntmps91
 go_wp2_with fail
 refine HK.out.mono ?_
 rintro e w' ⟨rfl, hb1⟩
 have HB1 := Lib.hid hb1
 clear hb1
 go_wp2_with fail
 go_ret
 exact ⟨ret_bool HE.out, HB1.out⟩
set_option maxHeartbeats 1000000 in
theorem DoingsOk1_any (c0 c1 c2 c3 c4 c5 : Value) (d : DoD) (w : World) (htab : tabT w) (h : DoR w w.heap.size c0 c1 c2 c3 c4 c5 d) (hok : okE d.ev) :
 Calls Tryz.prog 92 #[.agg #[c0, c1, c2, c3, c4, c5]] w fun e w' => e = .returned (.bool (!doingB d)) ∧ Below w.heap.size w w' := by
 obtain ⟨rfl, hr⟩ := h
 have HK1 := Lib.hid (fun W => jobOk_any d.job W)
 have HK2 := Lib.hid (fun W (hW : Below w.heap.size w W) => NoteOk_any c1 c2 c3 c4 c5 d.ev W (tab_later htab hW) (hr.later hW) hok.1 hok.2)
 have HE := Lib.hid (doingB_in d)
 clear hr hok htab
 generalize doingB d = R at *
 generalize noteB d.ev = x at *
 generalize inB d.job 1 4 = y at *
 generalize d.job = jb at *
 have HB0 : Hid (Below w.heap.size w (w.alloc (.cells #[.int .i64 jb, c1, c2, c3, c4, c5] 39))) := Below.new _ _
 go_enter Tryz.func92, Tryz.ntmps92
 cases y
 · go_wp2_with fail
   refine (HK1.out _).mono ?_
   rintro e w1 ⟨rfl, rfl⟩
   go_wp2_with fail
   go_ret
   exact ⟨ret_bool (by rw [HE.out]; rfl), HB0.out⟩
 · go_wp2_with fail
   refine (HK1.out _).mono ?_
   rintro e w1 ⟨rfl, rfl⟩
   go_wp2_with fail
   refine (HK2.out _ HB0.out).mono ?_
   rintro e w1 ⟨rfl, hb1⟩
   have HB := Lib.hid (HB0.out.later hb1)
   clear hb1
   go_wp2_with fail
   go_ret
   exact ⟨ret_bool (by rw [HE.out, Bool.true_and]), HB.out⟩
set_option maxHeartbeats 1000000 in
theorem DoingsOk_any (A : Option Addr) (n c : Nat) (fs : List DoD) (w : World) (htab : tabT w) (h : Dos w w.heap.size A n fs) (hok : okDs fs) :
 Calls Tryz.prog 37 #[.slice A n c] w fun e w' => e = .returned (.bool (doingsB fs)) ∧ Below w.heap.size w w' := by
 have hn : n ≤ 1048576 := by rw [← h.1]; exact hok.1
 have eg : ∀ args w, (callFunc 92 args).run Tryz.prog w = .ok (.enter 92 args) w := enters_of Tryz.func92 (by kernel_rfl) rfl
 have HK := Lib.hid (ContainsFuncDoing_any 92 #[] (fun d => !doingB d) A n c fs w h hn eg (fun d hd c0 c1 c2 c3 c4 c5 W hW hr => DoingsOk1_any c0 c1 c2 c3 c4 c5 d W (tab_later htab hW) hr (hok.2 d hd)))
 have HR : Hid (doingsB fs = (decide (n ≤ 60) && !(fs.any fun d => !doingB d))) := by unfold Hid doingsB; rw [any_not_all, h.1]
 clear h hok eg htab
 generalize doingsB fs = R at *
 generalize (fs.any fun d => !doingB d) = x at *
 go_enter Tryz.func37, Tryz.ntmps37
 by_cases h4 : n ≤ 60
 · have hd : decide (n ≤ 60) = true := decide_eq_true h4
   rw [hd, Bool.true_and] at HR
   go_wp2_with fail
   refine HK.out.mono ?_
   rintro e w1 ⟨rfl, hb1⟩
   have HB := Lib.hid hb1
   clear hb1
   go_wp2_with fail
   go_ret
   exact ⟨ret_bool HR.out.symm, HB.out⟩
 · have hd : decide (n ≤ 60) = false := decide_eq_false h4
   rw [hd, Bool.false_and] at HR
   go_wp2_with fail
   go_ret
   exact ⟨ret_bool HR.out.symm, Below.refl _ _⟩
end Go.Proofs.YtlicffeicmoifaaGreatDoor
