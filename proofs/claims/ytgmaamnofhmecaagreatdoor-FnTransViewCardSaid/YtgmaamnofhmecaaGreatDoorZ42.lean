import Derived.Test.YtgmaamnofhmecaaGreatDoorZ41
import Derived.Test.YtgmaamnofhmecaaGreatDoorZ34
import Derived.Test.YtgmaamnofhmecaaGreatDoorZ37
set_option linter.unusedSimpArgs false
namespace Go.Proofs.YtgmaamnofhmecaaGreatDoor
open Go.RowKit
set_option linter.unusedVariables false
def ReplPost (r : Int × Nat × List NodeD) (w : World) (e : Ending) (w' : World) : Prop := ∃ v, e = .returned (.tuple #[.agg #[v], .int .i64 r.2.1, .int .i64 r.1]) ∧ NodesW w' w.heap.size v r.2.2 ∧ Below w.heap.size w w'
theorem nodesW_nil (w : World) (base : Nat) : NodesW w base (.slice none 0 0) [] := (nodesO_nil w base).W
set_option maxRecDepth 100000 in
set_option maxHeartbeats 8000000 in
theorem Replay_any (A : Option Addr) (n c : Nat) (L : Option Addr) (m q : Nat) (fs : List NodeD) (l : List EvD) (w : World) (htab : tabT w) (hN : Nodes w w.heap.size A n fs) (hs : smallNs fs) (hcl : cleanT fs) (hL : Evs w w.heap.size L m l) (hok : okEs l) (hce : cleanEs l) :
 Calls Tryz.prog 30 #[.agg #[.slice A n c], .slice L m q] w (ReplPost (replB fs l) w) := by
 have HK1 := Lib.hid (fun W (hW : Below w.heap.size w W) => TreeOk_any A n c fs W (hN.later hW) (tab_later htab hW) hs)
 have HK2 := Lib.hid (fun W (hW : Below w.heap.size w W) => notesOk_any L m q l W (tab_later htab hW) (hL.later hW) hok)
 have HK3 := Lib.hid (fun W (hW : Below w.heap.size w W) => copyTree_any A n c fs W (hN.later hW) hs)
 have HTAB := Lib.hid htab
 have HLC := Lib.hid hL
 have HLL := Lib.hid hL.1
 have HAL := Lib.hid hok.2
 have HCE := Lib.hid hce
 have HC0 := Lib.hid hcl
 have HNA := Lib.hid (fun h => notes_all (l := l) h)
 have HR : Hid (replB fs l = if (treeB fs && notesB l) = true then repB fs l 0 else (1, 0, [])) := rfl
 clear htab hN hs hcl hL hok hce
 generalize replB fs l = PB at *
 generalize hx : treeB fs = x at *
 generalize hy : notesB l = y at *
 have HX := Lib.hid hx
 have HY := Lib.hid hy
 clear hx hy
 obtain ⟨WB, hWB⟩ : ∃ WB, WB = (w.alloc (.cells #[.slice A n c] 26)).alloc (.cells #[.slice none 0 0] 26) := ⟨_, rfl⟩
 have HB0 : Hid (Below w.heap.size w WB) := by subst hWB; exact (Below.new _ _).later (Below.new _ _)
 have HX0 : Hid (Blk WB w.heap.size 26 #[.slice A n c]) := by subst hWB; exact heap_two0 _ _ _
 have HY0 : Hid (Blk WB (w.heap.size + 1) 26 #[.slice none 0 0]) := by subst hWB; exact heap_two1 _ _ _
 go_enter Tryz.func30, Tryz.ntmps30
 go_wp2_with fail
 rw [← hWB]
 clear hWB
 refine (HK1.out _ HB0.out).mono ?_
 rintro e w1 ⟨rfl, hb1⟩
 have HB1 := Lib.hid (HB0.out.later hb1)
 have HX1 := Lib.hid (HX0.out.later hb1 HX0.out.lt)
 have HY1 := Lib.hid (HY0.out.later hb1 HY0.out.lt)
 have px := HX1.out.cell 0
 have py := HY1.out.cell 0
 have fy := HY1.out.frozen 0
 have zy := HY1.out.lt
 simp at px py
 clear hb1 HX0 HY0 HB0 HK1
 cases x
 · have HE : Hid (PB = (1, 0, [])) := by unfold Hid; rw [HR.out]; rfl
   go_wp2_with fail
   refine bodyPost_ret (v := .tuple #[.agg #[.slice none 0 0], .int .i64 0, .int .i64 1]) (by simp [results, Tryz.results30, go_sem, py]) rfl ?_
   exact ⟨_, by rw [HE.out]; rfl, by rw [HE.out]; exact nodesW_nil _ _, HB1.out.setCell (show w.heap.size ≤ w.heap.size + 1 by omega) _⟩
 rw [Bool.true_and] at HR
 go_wp2_with fail
 refine (HK2.out _ HB1.out).mono ?_
 rintro e w2 ⟨rfl, hb2⟩
 have HB2 := Lib.hid (HB1.out.later hb2)
 have HX2 := Lib.hid (HX1.out.later hb2 HX1.out.lt)
 have HY2 := Lib.hid (HY1.out.later hb2 HY1.out.lt)
 clear hb2 HX1 HY1 HB1 HK2 px py fy zy
 have px := HX2.out.cell 0
 have py := HY2.out.cell 0
 have fy := HY2.out.frozen 0
 have zy := HY2.out.lt
 simp at px py
 cases y
 · have HE : Hid (PB = (1, 0, [])) := by unfold Hid; rw [HR.out]; rfl
   go_wp2_with fail
   refine bodyPost_ret (v := .tuple #[.agg #[.slice none 0 0], .int .i64 0, .int .i64 1]) (by simp [results, Tryz.results30, go_sem, py]) rfl ?_
   exact ⟨_, by rw [HE.out]; rfl, by rw [HE.out]; exact nodesW_nil _ _, HB2.out.setCell (show w.heap.size ≤ w.heap.size + 1 by omega) _⟩
 rw [if_pos rfl] at HR
 obtain ⟨hm0, hnn0⟩ := HNA.out (by first | trivial | exact HY.out)
 have hm : m ≤ 60 := by rw [← HLL.out]; exact hm0
 have HNN := Lib.hid hnn0
 clear hm0 hnn0
 go_wp2_with fail
 refine (HK3.out _ HB2.out).mono ?_
 rintro e w3 ⟨v3, rfl, hn3, hb3⟩
 have HB3 := Lib.hid (HB2.out.later hb3)
 have HY3 := Lib.hid (HY2.out.later hb3 HY2.out.lt)
 have HN3 := Lib.hid (hn3.W.base HB2.out.size)
 obtain ⟨A3, cap3, rfl, _, _⟩ := hn3.reads
 have hz3 := HY3.out.lt
 have HBX := Lib.hid (Below.new w3 (.cells #[.slice A3 fs.length cap3] 26))
 clear hb3 hn3 px py fy zy HX2 HY2 HB2 HK3 HNA
 go_wp2_with fail
 go_loopw [24] (fun i wr => ∃ (k : Nat) (v : Value) (gs : List NodeD), k ≤ m ∧ i = .int .i64 k ∧ Hid (Blk wr w3.heap.size 26 #[v]) ∧ Hid (Blk wr (w.heap.size + 1) 26 #[.slice none 0 0]) ∧ Hid (NodesW wr w.heap.size v gs) ∧ Hid (treeB gs = true) ∧ Hid (cleanT gs) ∧ Hid (Below w.heap.size w wr) ∧ Hid (PB = repB gs (l.drop k) k)) (fun i _ => m - (intOf i).toNat)
 case atStart => exact ⟨0, _, fs, Nat.zero_le _, rfl, heap_alloc_new w3 _, HY3.out.alloc _, HN3.out.later HBX.out, HX.out, HC0.out, HB3.out.later HBX.out, by unfold Hid; rw [List.drop_zero]; exact HR.out⟩
 case round =>
  obtain ⟨k, v, gs, hk, rfl, HV, HYR, HNW, HTG, HCG, HBW, HPK⟩ := hrel
  obtain ⟨A4, cap4, rfl, hc4, _⟩ := HNW.out.reads
  clear HBX HN3
  by_cases hlt : k < m
  · obtain ⟨bb, o, rfl, hbB, hc⟩ := (HLC.out.later HBW.out).2 (by omega)
    obtain ⟨c0, c1, c2, c3, c4, k0, k1, k2, k3, k4, hr⟩ := hc k hlt
    clear hc
    have hl : k < l.length := by rw [HLL.out]; exact hlt
    obtain ⟨hsd, hov⟩ := HAL.out _ (getD_memQ l k hl)
    have hce := HCE.out _ (getD_memQ l k hl)
    have hnote := HNN.out _ (getD_memQ l k hl)
    have hda := drop_consQ l k hl
    generalize l.getD k default = d at *
    have HDA : Hid (PB = if (applyB gs d).1 = 0 then repB (applyB gs d).2 (l.drop (k + 1)) (k + 1) else ((applyB gs d).1, k, [])) := by unfold Hid; rw [HPK.out, hda]; rfl
    have HDT : Hid ((applyB gs d).1 = 0 → treeB (applyB gs d).2 = true) := apply_tree HTG.out hnote
    have HDC : Hid (cleanT (applyB gs d).2) := clean_apply HCG.out hce
    have HKA := Lib.hid (fun W (hW : Below wr.heap.size wr W) => apply_any w3.heap.size w.heap.size (.slice A4 gs.length cap4) gs c0 c1 c2 c3 c4 d W (tab_later HTAB.out (HBW.out.later hW)) (HV.out.later hW HV.out.lt) (HNW.out.later hW) (Nat.le_trans HBW.out.size hW.size) HTG.out HCG.out (hr.later hW) hsd hnote)
    clear hda hsd hov hnote hce
    generalize applyB gs d = R at *
    obtain ⟨r1, r2⟩ := R
    obtain ⟨rfl, rfl, ⟨S, m1, q1, rfl, _, _⟩, rfl, rfl⟩ := hr
    go_wp2_with fail
    refine (HKA.out _ (Below.new _ _)).mono ?_
    rintro e w5 ⟨rfl, hp5⟩
    have HP5 := Lib.hid (hp5.lift (Below.new _ _))
    have HB5 : Hid (Below w.heap.size w w5) := Own.Chg.below HBW.out HP5.out.1 (fun g hg => by
     rcases hg with rfl | hg
     · have := HB3.out.size; omega
     · exact (HNW.out.lt _ hg).1) (Nat.le_refl _)
    have HY5 : Hid (Blk w5 (w.heap.size + 1) 26 #[.slice none 0 0]) := Own.Blk.chg HYR.out HP5.out.1 (fun hg => by
     rcases hg with h | hg
     · omega
     · exact HNW.out.off HYR.out (by decide) hg)
    have py := HY5.out.cell 0
    have fy := HY5.out.frozen 0
    have zy := HY5.out.lt
    simp at py
    clear hp5 k0 k1 k2 k3 k4
    by_cases hr0 : r1 = 0
    · have HE2 : Hid (PB = repB r2 (l.drop (k + 1)) (k + 1)) := by unfold Hid; rw [HDA.out, if_pos hr0]
      have HT2 := Lib.hid (HDT.out hr0)
      obtain ⟨v5, hv5, hn5⟩ := HP5.out.2 hr0
      have HV5 := Lib.hid hv5
      have HN5 := Lib.hid hn5
      clear hv5 hn5
      subst hr0
      go_wp2_with fail
      go_roundw
      case rel => exact ⟨k + 1, _, r2, by omega, by go_num, HV5.out, HY5.out, HN5.out, HT2.out, HDC.out, HB5.out, HE2.out⟩
      case measure => simp [intOf]; omega
    · have HE2 : Hid (PB = (r1, k, [])) := by unfold Hid; rw [HDA.out, if_neg hr0]
      have hb0 : (r1 == (0 : Int)) = false := by rw [beq_eq_false_iff_ne]; exact hr0
      go_wp2_with fail
      refine bodyPost_ret (v := .tuple #[.agg #[.slice none 0 0], .int .i64 k, .int .i64 r1]) (by simp [results, Tryz.results30, go_sem, py]) rfl ?_
      exact ⟨_, by rw [HE2.out], by rw [HE2.out]; exact nodesW_nil _ _, HB5.out.setCell (show w.heap.size ≤ w.heap.size + 1 by omega) _⟩
  · obtain rfl : k = m := by omega
    have HE2 : Hid (PB = (0, 0, gs)) := by unfold Hid; rw [HPK.out, List.drop_of_length_le (by rw [HLL.out]; omega)]; rfl
    have pv := HV.out.cell 0
    have py := HYR.out.cell 0
    have fy := HYR.out.frozen 0
    have zy := HYR.out.lt
    simp at pv py
    go_wp2_with fail
    refine bodyPost_ret (v := .tuple #[.agg #[.slice A4 _ cap4], .int .i64 0, .int .i64 0]) (by simp [results, Tryz.results30, go_sem, py]; try first | exact rfl | exact ⟨rfl, rfl⟩) rfl ?_
    exact ⟨_, by rw [HE2.out]; rfl, by rw [HE2.out]; exact HNW.out.setBlk HYR.out (by decide) (by decide), HBW.out.setCell (show w.heap.size ≤ w.heap.size + 1 by omega) _⟩
end Go.Proofs.YtgmaamnofhmecaaGreatDoor
namespace Go.Proofs.YtgmaamnofhmecaaGreatDoor
open Go.RowKit
set_option linter.unusedVariables false
set_option linter.unusedSimpArgs false
noncomputable def commitB (fs : List NodeD) (x : TransD) : Int × TransD × List NodeD × List ChgD :=
 if (treeB fs && transB x) = false then (1, zeroT, [], [])
 else if x.depth = 0 then (17, zeroT, [], [])
 else if 1 < x.depth then (0, ⟨x.depth - 1, x.rest, x.evs⟩, fs, [])
 else if (replB fs x.evs).1 ≠ 0 then ((replB fs x.evs).1, zeroT, [], [])
 else (0, zeroT, (replB fs x.evs).2.2, chgsOf x.evs)
def CommitPost (r : Int × TransD × List NodeD × List ChgD) (w : World) (e : Ending) (w' : World) : Prop := ∃ v tv cv, e = .returned (.tuple #[.agg #[.int .i64 r.2.1.depth, .int .i64 r.2.1.rest, v], .agg #[tv], cv, .int .i64 r.1]) ∧ EvsO w' w.heap.size v r.2.1.evs ∧ NodesW w' w.heap.size tv r.2.2.1 ∧ ChgsO w' w.heap.size cv r.2.2.2 ∧ Below w.heap.size w w'
theorem NodesW.chgLow {P : Nat → Prop} {w w' : World} {base : Nat} {v : Value} {fs : List NodeD} (h : NodesW w base v fs) (k : Own.Chg P w w') (hP : ∀ g, P g → g < base) : NodesW w' base v fs := by
 obtain ⟨cs, h1, h2⟩ := h
 refine ⟨cs, Own.own_chg h1 k (Own.inP_of h1 fun g h3 _ hp => by have := hP g hp; omega), h2.mono fun c d hd => ?_⟩
 obtain ⟨u, e1, hs⟩ := hd
 exact ⟨u, e1, Own.own_chg hs k (Own.inP_of hs fun g h3 _ hp => by have := hP g hp; omega)⟩
theorem ChgsO.chgLow {P : Nat → Prop} {w w' : World} {base : Nat} {v : Value} {fs : List ChgD} (h : ChgsO w base v fs) (k : Own.Chg P w w') (hP : ∀ g, P g → g < base) : ChgsO w' base v fs := by
 obtain ⟨vs, h⟩ := h
 obtain ⟨h1, h2⟩ := Own.OwnL.inP h (P := fun g => ¬ P g) (fun g h1 _ hp => by have := hP g hp; omega)
 exact ⟨vs, Own.OwnL.chg h k h1 h2⟩
theorem commit_end {w W Y : World} {B : Nat} {tv v cv : Value} {R : Int × TransD × List NodeD × List ChgD} {e : Ending} (hY : Own.Chg (fun g => g = w.heap.size + 1 + 1 ∨ g = w.heap.size + 1 + 1 + 1) W Y) (hB : w.heap.size + 1 + 1 + 1 < B) (he : e = .returned (.tuple #[.agg #[.int .i64 R.2.1.depth, .int .i64 R.2.1.rest, v], .agg #[tv], cv, .int .i64 R.1]))
 (h1 : EvsO W B v R.2.1.evs) (h2 : NodesW W B tv R.2.2.1) (h3 : ChgsO W B cv R.2.2.2) (hb : Below w.heap.size w W) : CommitPost R w e Y := by
 have hP : ∀ g, (g = w.heap.size + 1 + 1 ∨ g = w.heap.size + 1 + 1 + 1) → g < B := fun g hg => by omega
 exact ⟨v, tv, cv, he, (h1.chgLow hY hP).base (by omega), (h2.chgLow hY hP).base (by omega), (h3.chgLow hY hP).base (by omega), Own.Chg.below hb hY (fun g hg => by omega) (Nat.le_refl _)⟩
set_option maxRecDepth 100000 in
set_option maxHeartbeats 8000000 in
theorem CommitTrans_any (A : Option Addr) (n c : Nat) (fs : List NodeD) (dp rs : Int) (L : Option Addr) (m q : Nat) (l : List EvD) (w : World) (htab : tabT w) (hN : Nodes w w.heap.size A n fs) (hs : smallNs fs) (hcl : cleanT fs) (hL : Evs w w.heap.size L m l) (hok : okEs l) (hce : cleanEs l) :
 Calls Tryz.prog 27 #[.agg #[.slice A n c], .agg #[.int .i64 dp, .int .i64 rs, .slice L m q]] w (CommitPost (commitB fs ⟨dp, rs, l⟩) w) := by
 have hsml : smallEs l := ⟨hok.1, fun e he => (hok.2 e he).1⟩
 obtain ⟨WB, hWB⟩ : ∃ WB, WB = (((w.alloc (.cells #[.slice A n c] 26)).alloc (.cells #[.int .i64 dp, .int .i64 rs, .slice L m q] 58)).alloc (.cells #[.int .i64 0, .int .i64 0, .slice none 0 0] 58)).alloc (.cells #[.slice none 0 0] 26) := ⟨_, rfl⟩
 have HB0 : Hid (Below w.heap.size w WB) := by subst hWB; exact below_new4 w _ _ _ _
 have HT0 : Hid (Blk WB w.heap.size 26 #[.slice A n c]) := by subst hWB; exact heap_0of4 w _ _ _ _
 have HX0 : Hid (Blk WB (w.heap.size + 1) 58 #[.int .i64 dp, .int .i64 rs, .slice L m q]) := by subst hWB; exact heap_1of4 w _ _ _ _
 have HY4 : Hid (Blk WB (w.heap.size + 1 + 1) 58 #[.int .i64 0, .int .i64 0, .slice none 0 0]) := by subst hWB; exact heap_2of4 w _ _ _ _
 have HY5 : Hid (Blk WB (w.heap.size + 1 + 1 + 1) 26 #[.slice none 0 0]) := by subst hWB; exact heap_3of4 w _ _ _ _
 have HS : Hid (∀ W', Below WB.heap.size WB W' → W'.cell? ⟨w.heap.size, 0, none⟩ = some (.slice A n c) ∧ W'.cell? ⟨w.heap.size + 1, 0, none⟩ = some (.int .i64 dp) ∧ W'.cell? ⟨w.heap.size + 1, 1, none⟩ = some (.int .i64 rs) ∧ W'.cell? ⟨w.heap.size + 1, 2, none⟩ = some (.slice L m q)) := fun W' hW => ⟨(HT0.out.later hW HT0.out.lt).at 0 rfl, (HX0.out.later hW HX0.out.lt).at 0 rfl, (HX0.out.later hW HX0.out.lt).at 1 rfl, (HX0.out.later hW HX0.out.lt).at 2 rfl⟩
 have HV4 : Hid (∀ W', Below WB.heap.size WB W' → Blk W' (w.heap.size + 1 + 1) 58 #[.int .i64 0, .int .i64 0, .slice none 0 0]) := fun W' hW => HY4.out.later hW HY4.out.lt
 have HV5 : Hid (∀ W', Below WB.heap.size WB W' → Blk W' (w.heap.size + 1 + 1 + 1) 26 #[.slice none 0 0]) := fun W' hW => HY5.out.later hW HY5.out.lt
 have hz5 := HY5.out.lt
 have HTB : Hid (∀ W, Below WB.heap.size WB W → tabT W) := fun W hW => tab_later htab (HB0.out.later hW)
 have HNX : Hid (∀ W, Below WB.heap.size WB W → Nodes W W.heap.size A n fs) := fun W hW => hN.later (HB0.out.later hW)
 have HEV : Hid (∀ W, Below WB.heap.size WB W → Evs W W.heap.size L m l) := fun W hW => hL.later (HB0.out.later hW)
 have HK1 := Lib.hid (fun W (hW : Below WB.heap.size WB W) => TreeOk_any A n c fs W (HNX.out W hW) (HTB.out W hW) hs)
 have HK2 := Lib.hid (fun W (hW : Below WB.heap.size WB W) => TransOk_any dp rs L m q l W (HTB.out W hW) (HEV.out W hW) hok)
 have HK3 := Lib.hid (fun W (hW : Below WB.heap.size WB W) => copyTrans_any dp rs L m q l W (HEV.out W hW) hsml)
 have HK4 := Lib.hid (fun W (hW : Below WB.heap.size WB W) => copyTree_any A n c fs W (HNX.out W hW) hs)
 have HK5 := Lib.hid (fun W (hW : Below WB.heap.size WB W) => Replay_any A n c L m q fs l W (HTB.out W hW) (HNX.out W hW) hs hcl (HEV.out W hW) hok hce)
 have HK6 := Lib.hid (fun W (hW : Below WB.heap.size WB W) => changesOf_any L m q l W (HEV.out W hW) hsml)
 have hdp : transB ⟨dp, rs, l⟩ = true → 0 ≤ dp ∧ dp ≤ 3 := fun h => by
  unfold transB at h
  simp only [Bool.and_eq_true, decide_eq_true_eq] at h
  exact h.1.1
 have HDP := Lib.hid hdp
 have HST : Hid (commitB fs ⟨dp, rs, l⟩ = if (treeB fs && transB ⟨dp, rs, l⟩) = false then (1, zeroT, [], []) else if dp = 0 then (17, zeroT, [], []) else if 1 < dp then (0, ⟨dp - 1, rs, l⟩, fs, []) else if (replB fs l).1 ≠ 0 then ((replB fs l).1, zeroT, [], []) else (0, zeroT, (replB fs l).2.2, chgsOf l)) := rfl
 clear hdp htab hN hs hcl hL hok hce hsml HT0 HX0 HY4 HY5
 generalize transB ⟨dp, rs, l⟩ = xb at *
 generalize treeB fs = tb at *
 generalize replB fs l = PB at *
 obtain ⟨code, at_, gs⟩ := PB
 obtain ⟨z0, z1, z2, z3⟩ := HS.out _ (Below.refl _ _)
 go_enter Tryz.func27, Tryz.ntmps27
 go_wp2_with fail
 rw [← hWB]
 clear hWB
 refine (HK1.out _ (Below.refl _ _)).mono ?_
 rintro e w1 ⟨rfl, hb1⟩
 have HB1 := Lib.hid hb1
 clear hb1 HK1 z0 z1 z2 z3
 have hw1 := HB1.out.size
 cases tb
 case false =>
  have hb4 := HV4.out _ HB1.out
  have hb5 := HV5.out _ HB1.out
  have s0 := hb4.cell 0
  have s1 := hb4.cell 1
  have s2 := hb4.cell 2
  have s3 := hb5.cell 0
  have f0 := hb4.frozen 0
  have f1 := hb4.frozen 1
  have f2 := hb4.frozen 2
  have f3 := hb5.frozen 0
  have z4 := hb4.lt
  have z5 := hb5.lt
  have hn45 : ¬ w.heap.size + 1 + 1 = w.heap.size + 1 + 1 + 1 := by omega
  have hn54 : ¬ w.heap.size + 1 + 1 + 1 = w.heap.size + 1 + 1 := by omega
  simp at s0 s1 s2 s3
  go_wp2_with fail
  refine bodyPost_ret (v := .tuple #[.agg #[.int .i64 0, .int .i64 0, .slice none 0 0], .agg #[.slice none 0 0], .slice none 0 0, .int .i64 1]) (by simp [results, Tryz.results27, go_sem, s0, s1, s2, s3, hn45, hn54]; try first | exact rfl | exact ⟨rfl, rfl⟩) rfl ?_
  rw [HST.out.trans (by rfl)]
  exact commit_end (w := w) (W := w1) (R := (1, zeroT, [], [])) (B := w1.heap.size) (v := .slice none 0 0) (tv := .slice none 0 0) (cv := .slice none 0 0) (by repeat' first | exact Own.Chg.refl _ _ | (refine chgA ?_ _) | (refine chgS ?_ (.inl rfl)) | (refine chgS ?_ (.inr rfl))) (by omega) rfl (evsO_nil _ _) (nodesW_nil _ _) (chgsO_nil _ _) (HB0.out.later HB1.out)
 obtain ⟨z0, z1, z2, z3⟩ := HS.out _ HB1.out
 go_wp2_with fail
 refine (HK2.out _ HB1.out).mono ?_
 rintro e w2 ⟨rfl, hb2⟩
 have HB2 := Lib.hid (HB1.out.later hb2)
 clear hb2 HK2 z0 z1 z2 z3 HB1 hw1
 have hw2 := HB2.out.size
 cases xb
 case false =>
  have hb4 := HV4.out _ HB2.out
  have hb5 := HV5.out _ HB2.out
  have s0 := hb4.cell 0
  have s1 := hb4.cell 1
  have s2 := hb4.cell 2
  have s3 := hb5.cell 0
  have f0 := hb4.frozen 0
  have f1 := hb4.frozen 1
  have f2 := hb4.frozen 2
  have f3 := hb5.frozen 0
  have z4 := hb4.lt
  have z5 := hb5.lt
  have hn45 : ¬ w.heap.size + 1 + 1 = w.heap.size + 1 + 1 + 1 := by omega
  have hn54 : ¬ w.heap.size + 1 + 1 + 1 = w.heap.size + 1 + 1 := by omega
  simp at s0 s1 s2 s3
  go_wp2_with fail
  refine bodyPost_ret (v := .tuple #[.agg #[.int .i64 0, .int .i64 0, .slice none 0 0], .agg #[.slice none 0 0], .slice none 0 0, .int .i64 1]) (by simp [results, Tryz.results27, go_sem, s0, s1, s2, s3, hn45, hn54]; try first | exact rfl | exact ⟨rfl, rfl⟩) rfl ?_
  rw [HST.out.trans (by rfl)]
  exact commit_end (w := w) (W := w2) (R := (1, zeroT, [], [])) (B := w2.heap.size) (v := .slice none 0 0) (tv := .slice none 0 0) (cv := .slice none 0 0) (by repeat' first | exact Own.Chg.refl _ _ | (refine chgA ?_ _) | (refine chgS ?_ (.inl rfl)) | (refine chgS ?_ (.inr rfl))) (by omega) rfl (evsO_nil _ _) (nodesW_nil _ _) (chgsO_nil _ _) (HB0.out.later HB2.out)
 obtain ⟨hd0, hd3⟩ := HDP.out (by first | rfl | trivial)
 rw [if_neg (by decide)] at HST
 obtain ⟨z0, z1, z2, z3⟩ := HS.out _ HB2.out
 by_cases h0 : dp = 0
 case pos =>
  subst h0
  have hb4 := HV4.out _ HB2.out
  have hb5 := HV5.out _ HB2.out
  have s0 := hb4.cell 0
  have s1 := hb4.cell 1
  have s2 := hb4.cell 2
  have s3 := hb5.cell 0
  have f0 := hb4.frozen 0
  have f1 := hb4.frozen 1
  have f2 := hb4.frozen 2
  have f3 := hb5.frozen 0
  have z4 := hb4.lt
  have z5 := hb5.lt
  have hn45 : ¬ w.heap.size + 1 + 1 = w.heap.size + 1 + 1 + 1 := by omega
  have hn54 : ¬ w.heap.size + 1 + 1 + 1 = w.heap.size + 1 + 1 := by omega
  simp at s0 s1 s2 s3
  go_wp2_with fail
  refine bodyPost_ret (v := .tuple #[.agg #[.int .i64 0, .int .i64 0, .slice none 0 0], .agg #[.slice none 0 0], .slice none 0 0, .int .i64 17]) (by simp [results, Tryz.results27, go_sem, s0, s1, s2, s3, hn45, hn54]; try first | exact rfl | exact ⟨rfl, rfl⟩) rfl ?_
  rw [HST.out.trans (by rfl)]
  exact commit_end (w := w) (W := w2) (R := (17, zeroT, [], [])) (B := w2.heap.size) (v := .slice none 0 0) (tv := .slice none 0 0) (cv := .slice none 0 0) (by repeat' first | exact Own.Chg.refl _ _ | (refine chgA ?_ _) | (refine chgS ?_ (.inl rfl)) | (refine chgS ?_ (.inr rfl))) (by omega) rfl (evsO_nil _ _) (nodesW_nil _ _) (chgsO_nil _ _) (HB0.out.later HB2.out)
 have h0b : (dp == (0 : Int)) = false := beq_eq_false_iff_ne.2 h0
 rw [if_neg h0] at HST
 by_cases h1 : 1 < dp
 case pos =>
  rw [if_pos h1] at HST
  have hwk : IntKind.i64.wrap (dp - 1) = dp - 1 := by rw [IntKind.wrap_i64]; omega
  go_wp2_with fail
  refine (HK3.out _ HB2.out).mono ?_
  rintro e w4 ⟨v', rfl, hsub, hb4⟩
  obtain ⟨AC, cc, rfl, hcc, _⟩ := hsub.reads
  obtain ⟨V, hV⟩ : ∃ V, V = w4.alloc (.cells #[.int .i64 (dp - 1), .int .i64 rs, .slice AC l.length cc] 58) := ⟨_, rfl⟩
  have HBV : Hid (Below WB.heap.size WB V) := by subst hV; exact (HB2.out.later hb4).later (Below.new _ _)
  have HSUB : Hid (EvsO V w2.heap.size (.slice AC l.length cc) l) := by subst hV; exact hsub.later (Below.new _ _)
  have HX8 : Hid (Blk V w4.heap.size 58 #[.int .i64 (dp - 1), .int .i64 rs, .slice AC l.length cc]) := by subst hV; exact heap_alloc_new _ _
  have hw4 := hb4.size
  clear hsub hb4 HK3 z0 z1 z2 z3 HK5 HK6
  have HS8 : Hid (∀ W', Below V.heap.size V W' → W'.cell? ⟨w.heap.size, 0, none⟩ = some (.slice A n c) ∧ W'.cell? ⟨w4.heap.size, 0, none⟩ = some (.int .i64 (dp - 1)) ∧ W'.cell? ⟨w4.heap.size, 1, none⟩ = some (.int .i64 rs) ∧ W'.cell? ⟨w4.heap.size, 2, none⟩ = some (.slice AC l.length cc)) := fun W' hW => ⟨(HS.out _ (HBV.out.later hW)).1, (HX8.out.later hW HX8.out.lt).at 0 rfl, (HX8.out.later hW HX8.out.lt).at 1 rfl, (HX8.out.later hW HX8.out.lt).at 2 rfl⟩
  obtain ⟨z0, z1, z2, z3⟩ := HS8.out _ (Below.refl _ _)
  obtain ⟨_, hu1, hu2, hu3⟩ := HS.out _ HB2.out
  go_upto_region 3 with fail
  try rw [hwk]
  rw [← hV]
  clear hV
  clear hu1 hu2 hu3
  go_region_law (first
   | (go_simp
      go_at_call 79
      refine (HK4.out _ (by exact HBV.out.drew)).mono ?_
      rintro e w5 ⟨tv, rfl, htn, hb5'⟩
      obtain ⟨TA, tc, rfl, _, _⟩ := htn.reads
      have HB5 := Lib.hid (undrew hb5')
      have HBW := Lib.hid (HBV.out.later HB5.out)
      have HTN := Lib.hid htn
      clear htn hb5'
      obtain ⟨y0, y1, y2, y3⟩ := HS8.out _ HB5.out
      have hnr4 : w4.heap.size < w5.heap.size := Nat.lt_of_lt_of_le HX8.out.lt HB5.out.size
      have hna : ¬ w4.heap.size = w.heap.size + 1 + 1 := by omega
      have hnb : ¬ w4.heap.size = w.heap.size + 1 + 1 + 1 := by omega
      have hna' : ¬ w.heap.size + 1 + 1 = w4.heap.size := by omega
      have hnb' : ¬ w.heap.size + 1 + 1 + 1 = w4.heap.size := by omega
      have hb4 := HV4.out _ HBW.out
      have hb5 := HV5.out _ HBW.out
      have s0 := hb4.cell 0
      have s1 := hb4.cell 1
      have s2 := hb4.cell 2
      have s3 := hb5.cell 0
      have f0 := hb4.frozen 0
      have f1 := hb4.frozen 1
      have f2 := hb4.frozen 2
      have f3 := hb5.frozen 0
      have z4 := hb4.lt
      have z5 := hb5.lt
      have hn45 : ¬ w.heap.size + 1 + 1 = w.heap.size + 1 + 1 + 1 := by omega
      have hn54 : ¬ w.heap.size + 1 + 1 + 1 = w.heap.size + 1 + 1 := by omega
      simp at s0 s1 s2 s3))
  all_goals
   go_wp2_with fail
   refine bodyPost_ret (v := .tuple #[.agg #[.int .i64 (dp - 1), .int .i64 rs, .slice AC l.length cc], .agg #[.slice TA fs.length tc], .slice none 0 0, .int .i64 0]) (by simp [results, Tryz.results27, go_sem, s0, s1, s2, s3, hn45, hn54]; try first | exact rfl | exact ⟨rfl, rfl⟩) rfl ?_
   rw [HST.out]
   exact commit_end (w := w) (W := w5) (R := (0, ⟨dp - 1, rs, l⟩, fs, [])) (B := w2.heap.size) (v := .slice AC l.length cc) (tv := .slice TA fs.length tc) (cv := .slice none 0 0) (by repeat' first | exact Own.Chg.refl _ _ | (refine chgA ?_ _) | (refine chgS ?_ (.inl rfl)) | (refine chgS ?_ (.inr rfl))) (by omega) rfl (HSUB.out.later HB5.out) (HTN.out.W.base (Nat.le_trans hw4 (Nat.le_of_lt HX8.out.lt))) (chgsO_nil _ _) (HB0.out.later HBW.out)
 rw [if_neg h1] at HST
 have hd1 : dp = 1 := by omega
 subst hd1
 clear h0 h0b h1 HK3 HK4
 go_wp2_with fail
 refine (HK5.out _ HB2.out).mono ?_
 rintro e w5 ⟨tv, rfl, hnw, hb5⟩
 obtain ⟨TA, tc, rfl, _, _⟩ := hnw.reads
 have HB5 := Lib.hid (HB2.out.later hb5)
 have HNW := Lib.hid hnw
 have hw5 := hb5.size
 clear hnw hb5 HK5 z0 z1 z2 z3
 by_cases hc : code = 0
 case neg =>
  have hcb : (code == (0 : Int)) = false := beq_eq_false_iff_ne.2 hc
  have hb4 := HV4.out _ HB5.out
  have hb5 := HV5.out _ HB5.out
  have s0 := hb4.cell 0
  have s1 := hb4.cell 1
  have s2 := hb4.cell 2
  have s3 := hb5.cell 0
  have f0 := hb4.frozen 0
  have f1 := hb4.frozen 1
  have f2 := hb4.frozen 2
  have f3 := hb5.frozen 0
  have z4 := hb4.lt
  have z5 := hb5.lt
  have hn45 : ¬ w.heap.size + 1 + 1 = w.heap.size + 1 + 1 + 1 := by omega
  have hn54 : ¬ w.heap.size + 1 + 1 + 1 = w.heap.size + 1 + 1 := by omega
  simp at s0 s1 s2 s3
  have hq4 := (((hb4.set_ 0 (.int .i64 0)).set_ 1 (.int .i64 0)).set_ 2 (.slice none 0 0)).far (p := ⟨w.heap.size + 1 + 1 + 1, 0, none⟩) (by omega) (.slice none 0 0)
  have hq5 := (((hb5.far (p := ⟨w.heap.size + 1 + 1, 0, none⟩) (by omega) (.int .i64 0)).far (p := ⟨w.heap.size + 1 + 1, 1, none⟩) (by omega) (.int .i64 0)).far (p := ⟨w.heap.size + 1 + 1, 2, none⟩) (by omega) (.slice none 0 0)).set_ 0 (.slice none 0 0)
  have hr4 := hq4.later (Below.new _ (.cells #[.slice TA gs.length tc] 26)) hq4.lt
  have hr5 := hq5.later (Below.new _ (.cells #[.slice TA gs.length tc] 26)) hq5.lt
  have t0 := hr4.cell 0
  have t1 := hr4.cell 1
  have t2 := hr4.cell 2
  have t3 := hr5.cell 0
  simp at t0 t1 t2 t3
  go_wp2_with fail
  refine bodyPost_ret (v := .tuple #[.agg #[.int .i64 0, .int .i64 0, .slice none 0 0], .agg #[.slice none 0 0], .slice none 0 0, .int .i64 code]) (by simp [results, Tryz.results27, go_sem, t0, t1, t2, t3]; try first | exact rfl | exact ⟨rfl, rfl⟩) rfl ?_
  rw [HST.out.trans (if_pos hc)]
  exact commit_end (w := w) (W := w5) (R := (code, zeroT, [], [])) (B := w5.heap.size) (v := .slice none 0 0) (tv := .slice none 0 0) (cv := .slice none 0 0) (by repeat' first | exact Own.Chg.refl _ _ | (refine chgA ?_ _) | (refine chgS ?_ (.inl rfl)) | (refine chgS ?_ (.inr rfl))) (by omega) rfl (evsO_nil _ _) (nodesW_nil _ _) (chgsO_nil _ _) (HB0.out.later HB5.out)
 subst hc
 have HR : Hid (commitB fs ⟨1, rs, l⟩ = (0, zeroT, gs, chgsOf l)) := HST.out.trans (if_neg (by simp))
 clear HST HDP
 obtain ⟨V, hV⟩ : ∃ V, V = w5.alloc (.cells #[.slice TA gs.length tc] 26) := ⟨_, rfl⟩
 have HBV : Hid (Below WB.heap.size WB V) := by subst hV; exact HB5.out.later (Below.new _ _)
 have HNV : Hid (NodesW V w2.heap.size (.slice TA gs.length tc) gs) := by subst hV; exact HNW.out.later (Below.new _ _)
 have HX9 : Hid (Blk V w5.heap.size 26 #[.slice TA gs.length tc]) := by subst hV; exact heap_alloc_new _ _
 have z9 := HX9.out.cell 0
 simp at z9
 obtain ⟨z0, z1, z2, z3⟩ := HS.out _ HBV.out
 clear HNW
 obtain ⟨hu0, hu1, hu2, hu3⟩ := HS.out _ HB5.out
 go_upto_region 3 with fail
 rw [← hV]
 clear hV hu0 hu1 hu2 hu3
 have hwx := HX9.out.lt
 go_region_law (first
  | (go_simp
     go_at_call 86
     refine (HK6.out _ (by exact HBV.out.drew)).mono ?_
     rintro e w6 ⟨cv, rfl, htn, hb6'⟩
     obtain ⟨CA, cc, rfl, _, _⟩ := htn.reads
     have HB6 := Lib.hid (undrew hb6')
     have HBW := Lib.hid (HBV.out.later HB6.out)
     have HCN := Lib.hid htn
     clear htn hb6'
     have hx9 := HX9.out.later HB6.out HX9.out.lt
     have y9 := hx9.cell 0
     simp at y9
     obtain ⟨y0, y1, y2, y3⟩ := HS.out _ HBW.out
     have hnr5 : w5.heap.size < w6.heap.size := hx9.lt
     have hna : ¬ w5.heap.size = w.heap.size + 1 + 1 := by omega
     have hnb : ¬ w5.heap.size = w.heap.size + 1 + 1 + 1 := by omega
     have hna' : ¬ w.heap.size + 1 + 1 = w5.heap.size := by omega
     have hnb' : ¬ w.heap.size + 1 + 1 + 1 = w5.heap.size := by omega
     have hb4 := HV4.out _ HBW.out
     have hb5 := HV5.out _ HBW.out
     have s0 := hb4.cell 0
     have s1 := hb4.cell 1
     have s2 := hb4.cell 2
     have s3 := hb5.cell 0
     have f0 := hb4.frozen 0
     have f1 := hb4.frozen 1
     have f2 := hb4.frozen 2
     have f3 := hb5.frozen 0
     have z4 := hb4.lt
     have z5 := hb5.lt
     have hn45 : ¬ w.heap.size + 1 + 1 = w.heap.size + 1 + 1 + 1 := by omega
     have hn54 : ¬ w.heap.size + 1 + 1 + 1 = w.heap.size + 1 + 1 := by omega
     simp at s0 s1 s2 s3))
 all_goals
  go_wp2_with fail
  refine bodyPost_ret (v := .tuple #[.agg #[.int .i64 0, .int .i64 0, .slice none 0 0], .agg #[.slice TA gs.length tc], .slice CA (chgsOf l).length cc, .int .i64 0]) (by simp [results, Tryz.results27, go_sem, s0, s1, s2, s3, hn45, hn54]; try first | exact rfl | exact ⟨rfl, rfl⟩) rfl ?_
  rw [HR.out]
  exact commit_end (w := w) (W := w6) (R := (0, zeroT, gs, chgsOf l)) (B := w2.heap.size) (v := .slice none 0 0) (tv := .slice TA gs.length tc) (cv := .slice CA (chgsOf l).length cc) (by repeat' first | exact Own.Chg.refl _ _ | (refine chgA ?_ _) | (refine chgS ?_ (.inl rfl)) | (refine chgS ?_ (.inr rfl))) (by omega) rfl (evsO_nil _ _) (HNV.out.later HB6.out) (HCN.out.base (Nat.le_trans hw5 (Nat.le_of_lt HX9.out.lt))) (HB0.out.later HBW.out)
end Go.Proofs.YtgmaamnofhmecaaGreatDoor
namespace Go.Proofs.YtgmaamnofhmecaaGreatDoor
open Go.RowKit
set_option linter.unusedVariables false
set_option linter.unusedSimpArgs false
theorem trans_parts {x : TransD} (h : transB x = true) : 0 ≤ x.depth ∧ x.depth ≤ 3 ∧ 0 ≤ x.rest ∧ x.rest ≤ 4 ∧ notesB x.evs = true ∧ (0 < x.depth ∨ (x.rest = 0 ∧ x.evs = [])) := by
 unfold transB at h
 simp only [Bool.and_eq_true, Bool.or_eq_true, decide_eq_true_eq] at h
 obtain ⟨⟨⟨h1, h2⟩, ⟨h3, h4⟩, h5⟩, h6⟩ := h
 exact ⟨h1, h2, h3, h4, h5, h6.imp id fun h => ⟨h.1, List.eq_nil_of_length_eq_zero h.2⟩⟩
theorem trans_of {d r : Int} {l : List EvD} (h0 : 0 < d) (h1 : d ≤ 3) (h2 : 0 ≤ r) (h3 : r ≤ 4) (h : notesB l = true) : transB ⟨d, r, l⟩ = true := by
 unfold transB
 simp only [Bool.and_eq_true, Bool.or_eq_true, decide_eq_true_eq]
 exact ⟨⟨⟨by omega, h1⟩, ⟨h2, h3⟩, h⟩, .inl h0⟩
theorem commit_deep {fs : List NodeD} {d r : Int} {l : List EvD} (ht : treeB fs = true) (hx : transB ⟨d, r, l⟩ = true) (hd : 1 < d) : commitB fs ⟨d, r, l⟩ = (0, ⟨d - 1, r, l⟩, fs, []) := by
 unfold commitB
 rw [ht, hx, if_neg (by decide), if_neg (show ¬ d = 0 by omega), if_pos hd]
theorem commit_one {fs : List NodeD} {r : Int} {l : List EvD} (ht : treeB fs = true) (hx : transB ⟨1, r, l⟩ = true) : commitB fs ⟨1, r, l⟩ = if (replB fs l).1 ≠ 0 then ((replB fs l).1, zeroT, [], []) else (0, zeroT, (replB fs l).2.2, chgsOf l) := by
 unfold commitB
 rw [ht, hx, if_neg (by decide), if_neg (show ¬ (1 : Int) = 0 by omega), if_neg (show ¬ (1 : Int) < 1 by omega)]
theorem repl_of {fs : List NodeD} {l : List EvD} (ht : treeB fs = true) (hn : notesB l = true) : replB fs l = repB fs l 0 := by
 unfold replB
 rw [ht, hn]
 rfl
theorem start_is {d r : Int} {l : List EvD} : startB ⟨d, r, l⟩ = if transB ⟨d, r, l⟩ = false then (1, zeroT) else if d = 3 then (17, zeroT) else (0, ⟨d + 1, r, l⟩) := rfl
theorem start_good {d r : Int} {l : List EvD} (h : (startB ⟨d, r, l⟩).1 = 0) : transB ⟨d, r, l⟩ = true ∧ d ≠ 3 ∧ startB ⟨d, r, l⟩ = (0, ⟨d + 1, r, l⟩) := by
 rw [start_is] at h ⊢
 split at h
 · cases h
 · next h1 =>
   rw [if_neg h1]
   split at h
   · cases h
   · next h2 =>
     rw [if_neg h2]
     exact ⟨by simpa using h1, h2, rfl⟩
theorem nested_is {fs : List NodeD} {d r : Int} {l : List EvD} (ht : treeB fs = true) (h : (startB ⟨d, r, l⟩).1 = 0) :
 startB ⟨d, r, l⟩ = (0, ⟨d + 1, r, l⟩) ∧ (d = 0 → commitB fs ⟨d + 1, r, l⟩ = (0, zeroT, fs, [])) ∧ (d ≠ 0 → commitB fs ⟨d + 1, r, l⟩ = (0, ⟨d, r, l⟩, fs, [])) := by
 obtain ⟨hx, h3, hs⟩ := start_good h
 obtain ⟨p0, p1, p2, p3, p4, p5⟩ := trans_parts hx
 dsimp only at p0 p1 p2 p3 p4 p5
 refine ⟨hs, fun h0 => ?_, fun h0 => ?_⟩
 · subst h0
   obtain ⟨rfl, rfl⟩ := p5.resolve_left (by omega)
   have h1 := commit_one (r := 0) (l := []) ht (trans_of (by omega) (by omega) (by omega) (by omega) p4)
   rw [repl_of ht p4] at h1
   exact h1
 · have h1 := commit_deep (d := d + 1) ht (trans_of (show 0 < d + 1 by omega) (by omega) p2 p3 p4) (by omega)
   rw [h1, show d + 1 - 1 = d by omega]
end Go.Proofs.YtgmaamnofhmecaaGreatDoor
