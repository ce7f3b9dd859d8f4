import Derived.Test.YtgmaamnofhmecaaGreatDoorZ33
set_option linter.unusedSimpArgs false
namespace Go.Proofs.YtgmaamnofhmecaaGreatDoor
open Go.RowKit
set_option linter.unusedVariables false
set_option linter.unusedSimpArgs false
noncomputable def startB (x : TransD) : Int × TransD := if transB x = false then (1, zeroT) else if x.depth = 3 then (17, zeroT) else (0, ⟨x.depth + 1, x.rest, x.evs⟩)
set_option maxRecDepth 100000 in
set_option maxHeartbeats 8000000 in
theorem specStartTrans_any (dp rs : Int) (L : Option Addr) (m q : Nat) (l : List EvD) (w : World) (hL : Evs w w.heap.size L m l) (hok : okEs l) :
 Calls Tryz.prog 33 #[.agg #[.int .i64 dp, .int .i64 rs, .slice L m q]] w (TrPost (startB ⟨dp, rs, l⟩) w) := by
 have hsml : smallEs l := ⟨hok.1, fun e he => (hok.2 e he).1⟩
 obtain ⟨WB, hWB⟩ : ∃ WB, WB = (w.alloc (.cells #[.int .i64 dp, .int .i64 rs, .slice L m q] 58)).alloc (.cells #[.int .i64 0, .int .i64 0, .slice none 0 0] 58) := ⟨_, rfl⟩
 have HB0 : Hid (Below w.heap.size w WB) := by subst hWB; exact (Below.new _ _).later (Below.new _ _)
 have HX0 : Hid (Blk WB w.heap.size 58 #[.int .i64 dp, .int .i64 rs, .slice L m q]) := by subst hWB; exact heap_two0 _ _ _
 have HYY : Hid (Blk WB (w.heap.size + 1) 58 #[.int .i64 0, .int .i64 0, .slice none 0 0]) := by subst hWB; exact heap_two1 _ _ _
 have HS : Hid (∀ W', Below WB.heap.size WB W' → W'.cell? ⟨w.heap.size, 0, none⟩ = some (.int .i64 dp) ∧ W'.cell? ⟨w.heap.size, 1, none⟩ = some (.int .i64 rs) ∧ W'.cell? ⟨w.heap.size, 2, none⟩ = some (.slice L m q)) := fun W' hW => ⟨(HX0.out.later hW HX0.out.lt).at 0 rfl, (HX0.out.later hW HX0.out.lt).at 1 rfl, (HX0.out.later hW HX0.out.lt).at 2 rfl⟩
 have HEV : Hid (∀ W, Below WB.heap.size WB W → Evs W W.heap.size L m l) := fun W hW => hL.later (HB0.out.later hW)
 have HK2 := Lib.hid (fun W (hW : Below WB.heap.size WB W) => specTransOk_any dp rs L m q l W (HEV.out W hW) hok)
 have hyz := HYY.out.lt
 have hb3 : startB ⟨dp, rs, l⟩ = if transB ⟨dp, rs, l⟩ = false then (1, zeroT) else if dp = 3 then (17, zeroT) else (0, ⟨dp + 1, rs, l⟩) := rfl
 have HST := Lib.hid hb3
 have hdp : transB ⟨dp, rs, l⟩ = true → 0 ≤ dp ∧ dp ≤ 3 := fun h => by
  unfold transB at h
  simp only [Bool.and_eq_true, decide_eq_true_eq] at h
  exact h.1.1
 have HDP := Lib.hid hdp
 clear hb3 hdp
 generalize transB ⟨dp, rs, l⟩ = xb at *
 obtain ⟨z0, z1, z2⟩ := HS.out _ (Below.refl _ _)
 go_enter Tryz.func33, Tryz.ntmps33
 go_wp2_with fail
 rw [← hWB]
 clear hWB
 refine (HK2.out _ (Below.refl _ _)).mono ?_
 rintro e w2 ⟨rfl, hb2⟩
 have HB2 := Lib.hid hb2
 clear hb2 HK2 z0 z1 z2
 cases xb
 case false =>
  have hb9 := HYY.out.later HB2.out HYY.out.lt
  have s0 := hb9.cell 0
  have s1 := hb9.cell 1
  have s2 := hb9.cell 2
  have f0 := hb9.frozen 0
  have f1 := hb9.frozen 1
  have f2 := hb9.frozen 2
  have fz := hb9.lt
  simp at s0 s1 s2
  go_wp2_with fail
  refine bodyPost_ret (v := .tuple #[.agg #[.int .i64 0, .int .i64 0, .slice none 0 0], .int .i64 1]) (by simp [results, Tryz.results33, go_sem, s0, s1, s2]; try first | exact rfl | exact ⟨rfl, rfl⟩) rfl ?_
  have hR := HST.out.trans (by rfl)
  rw [hR]
  exact tr_end (R := (1, zeroT)) rfl (evsO_nil _ _) hb9 (HB0.out.later HB2.out) (by omega) _ _ _ rfl
 obtain ⟨hd0, hd3⟩ := HDP.out (by first | rfl | trivial)
 obtain ⟨z0, z1, z2⟩ := HS.out _ HB2.out
 by_cases h3 : dp = 3
 case pos =>
  subst h3
  have hb9 := HYY.out.later HB2.out HYY.out.lt
  have s0 := hb9.cell 0
  have s1 := hb9.cell 1
  have s2 := hb9.cell 2
  have f0 := hb9.frozen 0
  have f1 := hb9.frozen 1
  have f2 := hb9.frozen 2
  have fz := hb9.lt
  simp at s0 s1 s2
  go_wp2_with fail
  refine bodyPost_ret (v := .tuple #[.agg #[.int .i64 0, .int .i64 0, .slice none 0 0], .int .i64 17]) (by simp [results, Tryz.results33, go_sem, s0, s1, s2]; try first | exact rfl | exact ⟨rfl, rfl⟩) rfl ?_
  have hR := HST.out.trans (by rfl)
  rw [hR]
  exact tr_end (R := (17, zeroT)) rfl (evsO_nil _ _) hb9 (HB0.out.later HB2.out) (by omega) _ _ _ rfl
 have h3b : (dp == (3 : Int)) = false := beq_eq_false_iff_ne.2 h3
 have hR : startB ⟨dp, rs, l⟩ = (0, ⟨dp + 1, rs, l⟩) := HST.out.trans (by rw [if_neg (by decide), if_neg h3])
 have HR := Lib.hid hR
 clear hR HST HDP
 have HKO := Lib.hid (fun W' (hW : Below WB.heap.size WB W') => l25OwnAll_any L m q l W' (HEV.out _ hW) hsml)
 have hw2 := HB2.out.size
 have hw0 := HB0.out.size
 have hwk : IntKind.i64.wrap (dp + 1) = dp + 1 := by rw [IntKind.wrap_i64]; omega
 go_wp2_with fail
 go_region_held3 (fun W' => W'.cell? ⟨w.heap.size, 0, none⟩ = some (.int .i64 dp) ∧ W'.cell? ⟨w.heap.size, 1, none⟩ = some (.int .i64 rs) ∧ W'.cell? ⟨w.heap.size, 2, none⟩ = some (.slice L m q))
  (first | exact HS.out _ HB2.out.drew | exact HS.out _ HB4.out | (obtain ⟨y0, y1, y2⟩ := HS.out _ HB4.out; exact ⟨cell_far2 (by simp) (cell_far2 (by simp) (cell_far2 (by simp) y0)), cell_far2 (by simp) (cell_far2 (by simp) (cell_far2 (by simp) y1)), cell_far2 (by simp) (cell_far2 (by simp) (cell_far2 (by simp) y2))⟩) | go_keep)
  (first
    | (go_at_call 87
       refine (HKO.out _ HB2.out.drew).mono ?_
       rintro e w4 ⟨v', rfl, hsub, hb4'⟩
       obtain ⟨AC, cc, rfl, hcc, _⟩ := hsub.reads
       have HB4 := Lib.hid (HB2.out.later (undrew hb4'))
       have HSUB := Lib.hid hsub
       obtain ⟨y0, y1, y2⟩ := HS.out _ HB4.out
       have hb9 := HYY.out.later HB4.out HYY.out.lt
       have s0 := hb9.cell 0
       have s1 := hb9.cell 1
       have s2 := hb9.cell 2
       have f0 := hb9.frozen 0
       have f1 := hb9.frozen 1
       have f2 := hb9.frozen 2
       have fz := hb9.lt
       simp at s0 s1 s2
       have hnr : ¬ w.heap.size + 1 = w.heap.size := by omega
       have hnr' : ¬ w.heap.size = w.heap.size + 1 := by omega
       clear hsub hb4'))
 all_goals
  go_wp2_with fail
  refine bodyPost_ret (v := .tuple #[.agg #[.int .i64 (dp + 1), .int .i64 rs, .slice AC l.length cc], .int .i64 0]) (by simp [results, Tryz.results33, go_sem, hwk, s0, s1, s2]; try first | exact rfl | exact ⟨rfl, rfl⟩) rfl ?_
  rw [HR.out]
  try rw [hwk]
  exact tr_end (w := w) (W := w4) (r := w.heap.size + 1) (R := (0, ⟨dp + 1, rs, l⟩)) (v := .slice AC l.length cc) rfl (HSUB.out.base (show w.heap.size ≤ w2.heap.size by omega)) hb9 (HB0.out.later HB4.out) (by omega) (.int .i64 (dp + 1)) (.int .i64 rs) (.slice AC l.length cc) rfl
end Go.Proofs.YtgmaamnofhmecaaGreatDoor
namespace Go.Proofs.YtgmaamnofhmecaaGreatDoor
open Go.RowKit
set_option linter.unusedVariables false
set_option linter.unusedSimpArgs false
def TransOnly (x : TransD) (w : World) (e : Ending) (w' : World) : Prop := ∃ v, e = .returned (.agg #[.int .i64 x.depth, .int .i64 x.rest, v]) ∧ EvsO w' w.heap.size v x.evs ∧ Below w.heap.size w w'
theorem set3_frame {w W : World} {r : Nat} (hb : Below w.heap.size w W) (hwr : w.heap.size ≤ r) (x0 x1 x2 : Value) : Below w.heap.size w (set3 W r x0 x1 x2) := ((hb.setCell (p := ⟨r, 0, none⟩) hwr _).setCell (p := ⟨r, 1, none⟩) hwr _).setCell (p := ⟨r, 2, none⟩) hwr _
theorem set3_evs {W : World} {r B : Nat} {v : Value} {l : List EvD} {cs : Array Value} (hv : EvsO W B v l) (hr : Blk W r 58 cs) (x0 x1 x2 : Value) : EvsO (set3 W r x0 x1 x2) B v l := by
 have h1 := hr.set_ 0 x0
 have h2 := h1.set_ 1 x1
 exact ((hv.setBlk hr (by decide) (by decide)).setBlk h1 (by decide) (by decide)).setBlk h2 (by decide) (by decide)
set_option maxRecDepth 100000 in
set_option maxHeartbeats 4000000 in
theorem copyTrans_any (dp rs : Int) (A : Option Addr) (n c : Nat) (l : List EvD) (w : World) (h : Evs w w.heap.size A n l) (hsm : smallEs l) :
 Calls Tryz.prog 85 #[.agg #[.int .i64 dp, .int .i64 rs, .slice A n c]] w (TransOnly ⟨dp, rs, l⟩ w) := by
 obtain ⟨i0, hi, hz0, hz1, hz2⟩ := info_parts infoEvD
 have Hh := Lib.hid h
 have Hlen := Lib.hid h.1
 have Hsm := Lib.hid hsm.2
 have hn : n ≤ 1048576 := by rw [← h.1]; exact hsm.1
 clear h hsm
 have HB0 : Hid (Below w.heap.size w (((w.alloc (.cells #[.int .i64 dp, .int .i64 rs, .slice A n c] 58)).alloc (.cells #[.int .i64 0, .int .i64 0, .slice none 0 0] 58)).alloc (.cells #[.int .i64 dp, .int .i64 rs, .slice none 0 0] 58))) := below_new3 w _ _ _
 have HY0 : Hid (Blk (((w.alloc (.cells #[.int .i64 dp, .int .i64 rs, .slice A n c] 58)).alloc (.cells #[.int .i64 0, .int .i64 0, .slice none 0 0] 58)).alloc (.cells #[.int .i64 dp, .int .i64 rs, .slice none 0 0] 58)) (w.heap.size + 1) 58 #[.int .i64 0, .int .i64 0, .slice none 0 0]) := heap_new1 _ _ _ _
 have HV0 : Hid (Blk (((w.alloc (.cells #[.int .i64 dp, .int .i64 rs, .slice A n c] 58)).alloc (.cells #[.int .i64 0, .int .i64 0, .slice none 0 0] 58)).alloc (.cells #[.int .i64 dp, .int .i64 rs, .slice none 0 0] 58)) (w.heap.size + 1 + 1) 58 #[.int .i64 dp, .int .i64 rs, .slice none 0 0]) := heap_new2 _ _ _ _
 go_enter Tryz.func85, Tryz.ntmps85
 go_wp2_with fail
 go_loopw [14] (fun i wr => ∃ (k : Nat) (v : Value), k ≤ n ∧ i = .int .i64 k ∧ Hid (Blk wr (w.heap.size + 1) 58 #[.int .i64 0, .int .i64 0, .slice none 0 0]) ∧ Hid (Blk wr (w.heap.size + 1 + 1) 58 #[.int .i64 dp, .int .i64 rs, v]) ∧ Hid (EvsO wr w.heap.size v (l.take k)) ∧ Hid (Below w.heap.size w wr)) (fun i _ => n - (intOf i).toNat)
 case atStart => exact ⟨0, _, Nat.zero_le _, rfl, HY0.out, HV0.out, by unfold Hid; rw [List.take_zero]; exact evsO_nil _ _, HB0.out⟩
 case round =>
  obtain ⟨k, v, hk, rfl, HY, HV, ⟨vs, ho⟩, HB⟩ := hrel
  have HO := Lib.hid ho
  clear ho
  clear HB0 HY0 HV0
  by_cases hlt : k < n
  · have hl : k < l.length := by rw [Hlen.out]; exact hlt
    obtain ⟨bb, o, rfl, hbB, hcn⟩ := (Hh.out.later HB.out).2 (by omega)
    obtain ⟨c0, c1, c2, c3, c4, k0, k1, k2, k3, k4, hr⟩ := hcn k hlt
    clear hcn
    have hsd := Hsm.out _ (getD_memQ l k hl)
    have HT : Hid (l.take (k + 1) = l.take k ++ [l.getD k default]) := take_succQ l k hl
    have htl : (l.take k).length = k := by rw [List.length_take]; omega
    have hrw := HO.out.row
    rw [htl] at hrw
    obtain ⟨g, cap, rfl, _, _, _⟩ := Own.own_slice hrw
    have HRW := Lib.hid hrw
    have HTL := Lib.hid htl
    clear htl hrw
    generalize l.getD k default = d at *
    have HKC := Lib.hid (fun W (hW : Below wr.heap.size wr W) => copyEvent_any c0 c1 c2 c3 c4 d W (hr.later hW) hsd.2.1.1)
    obtain ⟨rfl, rfl, ⟨A1, n1, p1, rfl, _, _⟩, rfl, rfl⟩ := hr
    unfold EvPost at HKC
    generalize hdn : d.name = dn at *
    generalize hdv : d.val = dv at *
    generalize hdk : d.kind = dk at *
    generalize hdm : d.n = dm at *
    have HDN := Lib.hid hdn
    have HDV := Lib.hid hdv
    have HDK := Lib.hid hdk
    have HDM := Lib.hid hdm
    clear hsd hdn hdv hdk hdm
    have hbBz : bb < wr.heap.size := hbB
    go_wp2_with fail
    obtain ⟨V, hV⟩ : ∃ V, V = wr.alloc (.cells #[.int .i64 dk, .string dn, .slice A1 n1 p1, .string dv, .int .i64 dm] 55) := ⟨_, rfl⟩
    have HBV : Hid (Below wr.heap.size wr V) := by subst hV; exact Below.new _ _
    have HN5 : Hid (Blk V wr.heap.size 55 #[.int .i64 dk, .string dn, .slice A1 n1 p1, .string dv, .int .i64 dm]) := by subst hV; exact heap_alloc_new _ _
    rw [← hV]
    clear hV
    have n0 := HN5.out.cell 0
    have n1' := HN5.out.cell 1
    have n2 := HN5.out.cell 2
    have n3 := HN5.out.cell 3
    have n4 := HN5.out.cell 4
    have HVV := Lib.hid (HV.out.later HBV.out HV.out.lt)
    have pv := HVV.out.cell 2
    have zv := HVV.out.lt
    have fv := HVV.out.frozen 2
    have hwz := HB.out.size
    have hvz := HBV.out.size
    simp at n0 n1' n2 n3 n4 pv
    clear k0 k1 k2 k3 k4
    go_region_law (first
     | (refine step_append_lies _ (by rfl) _ _ _ (by rfl) w.heap.size 55 i0 _ 5 72 Tryz.underlying51 hi hz0 hz1 hz2 rfl (by omega) (.slice g k cap) k (Own.flat evK (l.take k) vs) (by rfl) (by exact HRA.out)
         ⟨w4.heap.size, 0, none⟩ 1 1 [.int .i64 dk, .string dn, .slice A2 m2 c2, .string dv, .int .i64 dm] (by rfl) (by rfl) (by exact cells_newG (w := w4) (cs := #[.int .i64 dk, .string dn, .slice A2 m2 c2, .string dv, .int .i64 dm]) rfl) (by simp [Value.oneCell'])
         (by omega) (by unfold maxLen; omega) (by omega) (by simp; omega) (w4.heap.size + 1) (by simp) ?_
        intro gg cap' w5 hown5 hgrow5 hat hlt2
        have hbg := (HV4.out.alloc (.cells #[.int .i64 dk, .string dn, .slice A2 m2 c2, .string dv, .int .i64 dm] 55)).grown hgrow5 (fun e => Own.own_blk_ne HRA.out (HV4.out.alloc _) (by decide) e.symm)
        have pv5 := hbg.cell
        have fv5 := hbg.frozen
        have zv5 := hbg.lt
        have HBG := Lib.hid hbg
        have HOW := Lib.hid hown5
        have HGR := Lib.hid hgrow5
        clear hown5 hgrow5 hbg)
     | (go_simp
        go_at_call 102
        refine (HKC.out _ (by exact HBV.out.drew)).mono ?_
        rintro e w4 ⟨v2, rfl, hs2, hb4'⟩
        have hb4 := undrew hb4'
        obtain ⟨A2, m2, c2, rfl⟩ : ∃ A2 m2 c2, v2 = .slice A2 m2 c2 := by obtain ⟨A, cap, e, _⟩ := Own.own_slice hs2; exact ⟨A, _, cap, e⟩
        have HS2 := Lib.hid hs2
        have HB4 := Lib.hid (HBV.out.later hb4)
        have HV4 := Lib.hid (HVV.out.later hb4 HVV.out.lt)
        have pv4 := HV4.out.cell 2
        have zv4 := HV4.out.lt
        have fv4 := HV4.out.frozen 2
        simp at pv4
        have hsz4 := hb4.size
        have HRA := Lib.hid (Own.own_later (Own.own_later HRW.out HB4.out) (Below.new w4 (.cells #[.int .i64 dk, .string dn, .slice A2 m2 c2, .string dv, .int .i64 dm] 55)))
        clear hb4 hb4' hs2))
    all_goals
     have HN4 := Lib.hid (HB4.out.later (Below.new w4 (.cells #[.int .i64 dk, .string dn, .slice A2 m2 c2, .string dv, .int .i64 dm] 55)))
     have HY4 := Lib.hid ((HY.out.later HN4.out HY.out.lt).grown HGR.out (fun e => Own.own_blk_ne HRA.out (HY.out.later HN4.out HY.out.lt) (by decide) e.symm))
     have HN5 : Hid (Below w.heap.size w w5) := ((HB.out.later HN4.out)).grown HGR.out (by simp; omega) (fun g' hg' => (World.ownsRow.lt HRA.out g' hg').1)
     have HO5 : Hid (Own.OwnL evK w5 w.heap.size 55 (.slice (some ⟨gg, 0, none⟩) (k + 1) cap') (l.take (k + 1)) (vs ++ [.slice A2 m2 c2])) := by
      unfold Hid
      rw [HT.out]
      refine Own.OwnL.snoc (HO.out.later HN4.out) (Own.own_later (Own.own_base HS2.out (by simp; omega)) (Below.new _ _)) (HO.out.fresh HS2.out (by simp; omega)) ?_ (by first | exact HGR.out | (rw [HTL.out]; exact HGR.out)) (by decide)
      rw [HTL.out]
      have hx := HOW.out
      rw [← HDN.out, ← HDV.out, ← HDK.out, ← HDM.out] at hx
      exact hx
     clear n0 n1' n2 n3 n4 pv4 pv
     go_wp2_with fail
     go_roundw
     case rel => exact ⟨k + 1, _, by omega, by go_num, HY4.out.far (show w.heap.size + 1 ≠ w.heap.size + 1 + 1 by omega) _, HBG.out.set_ 2 _, EvsO.setBlk ⟨_, HO5.out⟩ HBG.out (by decide) (by decide), HN5.out.setCell (show w.heap.size ≤ w.heap.size + 1 + 1 by omega) _⟩
     case measure => simp [intOf]; omega
  · have ht : l.take k = l := List.take_of_length_le (by rw [Hlen.out]; omega)
    have HO2 : Hid (Own.OwnL evK wr w.heap.size 55 v l vs) := by have h2 := HO.out; rwa [ht] at h2
    obtain ⟨A3, cap3, rfl, _, _⟩ := EvsO.reads ⟨vs, HO2.out⟩
    have pv0 := HV.out.cell 0
    have pv1 := HV.out.cell 1
    have pv2 := HV.out.cell 2
    have zv := HV.out.lt
    have py0 := HY.out.cell 0
    have py1 := HY.out.cell 1
    have py2 := HY.out.cell 2
    have zy := HY.out.lt
    have fy0 := HY.out.frozen 0
    have fy1 := HY.out.frozen 1
    have fy2 := HY.out.frozen 2
    simp at pv0 pv1 pv2 py0 py1 py2
    go_wp2_with fail
    refine bodyPost_ret (v := .agg #[.int .i64 dp, .int .i64 rs, .slice A3 _ cap3]) (by simp [results, Tryz.results85, go_sem, py0, py1, py2]; try rfl) rfl ?_
    exact ⟨_, rfl, set3_evs ⟨vs, HO2.out⟩ HY.out (.int .i64 dp) (.int .i64 rs) _, set3_frame HB.out (show w.heap.size ≤ w.heap.size + 1 by omega) (.int .i64 dp) (.int .i64 rs) _⟩
end Go.Proofs.YtgmaamnofhmecaaGreatDoor
namespace Go.Proofs.YtgmaamnofhmecaaGreatDoor
open Go.RowKit
set_option linter.unusedVariables false
set_option linter.unusedSimpArgs false
set_option maxRecDepth 100000 in
set_option maxHeartbeats 8000000 in
theorem changesOf_any (A : Option Addr) (n c : Nat) (l : List EvD) (w : World) (h : Evs w w.heap.size A n l) (hsm : smallEs l) :
 Calls Tryz.prog 86 #[.slice A n c] w (ChgsOnly (chgsOf l) w) := by
 obtain ⟨i0, hi, hz0, hz1, hz2⟩ := info_parts infoChgD
 have H := Lib.hid h
 have HL := Lib.hid h.1
 have hn : n ≤ 1048576 := by rw [← h.1]; exact hsm.1
 have HSM := Lib.hid hsm.2
 clear h hsm
 obtain ⟨WB, hWB⟩ : ∃ WB, WB = w.alloc (.cells #[] 88) := ⟨_, rfl⟩
 have HS0 : Hid (Own.OwnL chgK WB w.heap.size 88 (.slice (some ⟨w.heap.size, 0, none⟩) 0 0) [] []) := by subst hWB; exact ⟨rfl, World.ownsRow_lit (e := 88) (size := 4) w #[] 0 (Nat.le_refl _) (by omega) rfl, fun j hj => by simp at hj, List.Pairwise.nil⟩
 have HB0 : Hid (Below w.heap.size w WB) := by subst hWB; exact Below.new _ _
 go_enter Tryz.func86, Tryz.ntmps86
 go_wp2_with fail
 rw [← hWB]
 clear hWB
 go_loopw [3, 9] (fun ov iv wr => ∃ (k : Nat) (us : List Value), k ≤ n ∧ iv = .int .i64 k ∧ Hid (Own.OwnL chgK wr w.heap.size 88 ov (chgsOf (l.take k)) us) ∧ Hid (Below w.heap.size w wr)) (fun _ iv _ => n - (intOf iv).toNat)
 case atStart => exact ⟨0, [], Nat.zero_le _, rfl, HS0.out, HB0.out⟩
 case round =>
  obtain ⟨k, us, hk, rfl, HO, HB⟩ := hrel
  clear HS0 HB0
  have hlk : (chgsOf (l.take k)).length ≤ k := Nat.le_trans (chgsOf_len _) (by rw [List.length_take]; omega)
  obtain ⟨OA, oc, rfl, _, _⟩ := Own.own_slice HO.out.row
  generalize hok : (chgsOf (l.take k)).length = ok at *
  have HLK := Lib.hid hok
  clear hok
  by_cases hlt : k < n
  · obtain ⟨b, o, rfl, hb', hc'⟩ := (H.out.later HB.out).2 (by omega)
    obtain ⟨c0, c1, c2, c3, c4, x0, x1, x2, x3, x4, hr⟩ := hc' k hlt
    obtain ⟨rfl, rfl, ⟨S1, m1, q1, rfl, hs1, hq1⟩, rfl, rfl⟩ := hr
    have HR : Hid (EvR wr wr.heap.size (.int .i64 (l.getD k default).kind) (.string (l.getD k default).name) (.slice S1 m1 q1) (.string (l.getD k default).val) (.int .i64 (l.getD k default).n) (l.getD k default)) := ⟨rfl, rfl, ⟨S1, m1, q1, rfl, hs1, hq1⟩, rfl, rfl⟩
    have hsd := (HSM.out _ (getD_memQ l k (by rw [HL.out]; exact hlt))).2.1.1
    have HTK := Lib.hid (take_succQ l k (by rw [HL.out]; exact hlt))
    generalize l.getD k default = d at *
    clear hc' hs1 hq1
    have hki : (k : Int) < (n : Int) := by omega
    have HKT := Lib.hid (fun W (hW : Below wr.heap.size wr W) => TurnsOf_any _ _ _ _ _ d W (HR.out.later hW))
    have HKO := Lib.hid (fun W (hW : Below wr.heap.size wr W) => changeOf_any _ _ _ _ _ d W (HR.out.later hW) hsd)
    clear hsd HR
    go_wp2_with fail
    obtain ⟨V, hV⟩ : ∃ V, V = wr.alloc (.cells #[.int .i64 d.kind, .string d.name, .slice S1 m1 q1, .string d.val, .int .i64 d.n] 55) := ⟨_, rfl⟩
    have HBV : Hid (Below wr.heap.size wr V) := by subst hV; exact Below.new _ _
    have HN5 : Hid (Blk V wr.heap.size 55 #[.int .i64 d.kind, .string d.name, .slice S1 m1 q1, .string d.val, .int .i64 d.n]) := by subst hV; exact heap_alloc_new _ _
    rw [← hV]
    clear hV
    refine (HKT.out _ HBV.out).mono ?_
    rintro e w2 ⟨rfl, hb2⟩
    have x0 := HN5.out.cell 0
    have x1 := HN5.out.cell 1
    have x2 := HN5.out.cell 2
    have x3 := HN5.out.cell 3
    have x4 := HN5.out.cell 4
    simp at x0 x1 x2 x3 x4
    have HB2 := Lib.hid (HBV.out.later hb2)
    have y0 := cell_later hb2 x0
    have y1 := cell_later hb2 x1
    have y2 := cell_later hb2 x2
    have y3 := cell_later hb2 x3
    have y4 := cell_later hb2 x4
    clear hb2 HKT x0 x1 x2 x3 x4
    have HSN := Lib.hid (chgsOf_snoc (l.take k) d)
    generalize turnsB d = tb at *
    cases tb
    · have HN2 : Hid (chgsOf (l.take (k + 1)) = chgsOf (l.take k)) := by unfold Hid; rw [HTK.out, HSN.out]; rfl
      go_wp2_with fail
      go_roundw
      case rel => exact ⟨k + 1, us, by omega, by go_num, by rw [HN2.out]; exact HO.out.later HB2.out, HB.out.later HB2.out⟩
      case measure => simp [intOf]; omega
    · have HN2 : Hid (chgsOf (l.take (k + 1)) = chgsOf (l.take k) ++ [chgOf d]) := by unfold Hid; rw [HTK.out, HSN.out]; rfl
      go_wp2_with fail
      refine (HKO.out _ HB2.out).mono ?_
      rintro e w3 ⟨v, rfl, hsub, hb3⟩
      obtain ⟨SA, scap, rfl, _, _⟩ := Own.SubO.strs hsub
      have HO3 := Lib.hid (HO.out.later (HB2.out.later hb3))
      have HB3 := Lib.hid (HB.out.later (HB2.out.later hb3))
      have HSB : Hid (Own.SubO w3 w.heap.size (.slice SA (chgOf d).subs.length scap) (chgOf d).subs) := Own.own_base hsub (show w.heap.size ≤ w2.heap.size from Nat.le_trans HB.out.size HB2.out.size)
      have HAP := Lib.hid (HO.out.fresh hsub HB2.out.size)
      clear hsub hb3 HKO y0 y1 y2 y3 y4
      have HOWN : Hid ((w3.alloc (.cells #[.int .i64 (chgOf d).kind, .string (chgOf d).name, .slice SA (chgOf d).subs.length scap, .string (chgOf d).val] 88)).ownsRow w.heap.size 88 4 (.slice OA ok oc) ok (Own.flat chgK (chgsOf (l.take k)) us)) := by
       have h := Own.own_later HO3.out.row (Below.new _ (.cells #[.int .i64 (chgOf d).kind, .string (chgOf d).name, .slice SA (chgOf d).subs.length scap, .string (chgOf d).val] 88))
       rw [HLK.out] at h
       exact h
      have hbs : w.heap.size ≤ (w3.alloc (.cells #[.int .i64 (chgOf d).kind, .string (chgOf d).name, .slice SA (chgOf d).subs.length scap, .string (chgOf d).val] 88)).heap.size := by have := HB3.out.size; simp; omega
      go_wp2_with (at_builtin; refine wpList_append_own _ rfl (.tmp 15) (.tmp 18) 34 rfl w.heap.size 88 i0 _ 4 64 Tryz.underlying34 hi hz0 hz1 hz2 rfl (by decide) _ ok _ rfl HOWN.out ⟨_, 0, none⟩ 1 1 ((#[.int .i64 (chgOf d).kind, .string (chgOf d).name, .slice SA (chgOf d).subs.length scap, .string (chgOf d).val] : Array Value).toList) rfl rfl ?c1b ?c2b ?c3b ?c4b ?c5b ?_)
      try (case c1b => exact cells_newG (cs := #[.int .i64 (chgOf d).kind, .string (chgOf d).name, .slice SA (chgOf d).subs.length scap, .string (chgOf d).val]) rfl)
      try (case c2b => simp [Value.oneCell'])
      try (case c3b => unfold maxLen; omega)
      try (case c4b => omega)
      try (case c5b => exact hbs)
      intro v5 w5 hown5 hg5 _
      have HN := Lib.hid (Own.OwnL.snoc (d := (chgOf d)) (HO3.out.later (Below.new _ (.cells #[.int .i64 (chgOf d).kind, .string (chgOf d).name, .slice SA (chgOf d).subs.length scap, .string (chgOf d).val] 88))) (sub_later HSB.out (Below.new _ (.cells #[.int .i64 (chgOf d).kind, .string (chgOf d).name, .slice SA (chgOf d).subs.length scap, .string (chgOf d).val] 88))) HAP.out (by rw [HLK.out]; exact hown5) hg5 (by decide))
      have HB5 := Lib.hid ((HB3.out.later (Below.new _ (.cells #[.int .i64 (chgOf d).kind, .string (chgOf d).name, .slice SA (chgOf d).subs.length scap, .string (chgOf d).val] 88))).grown hg5 hbs (fun g e => (HOWN.out.lt g e).1))
      clear hown5 hg5
      go_wp2_with fail
      go_roundw
      case rel => exact ⟨k + 1, _, by omega, by go_num, by rw [HN2.out]; exact HN.out, HB5.out⟩
      case measure => simp [intOf]; omega
  · obtain rfl : k = n := by omega
    have HE : Hid (l.take k = l) := List.take_of_length_le (by rw [HL.out]; exact Nat.le_refl _)
    have HOE := HO.out
    rw [HE.out] at HOE
    have hki : ¬ (k : Int) < (k : Int) := by omega
    go_wp2_with fail
    go_ret
    exact ⟨_, rfl, ⟨us, HOE⟩, HB.out⟩
set_option maxRecDepth 100000 in
set_option maxHeartbeats 8000000 in
theorem StartTrans_any (dp rs : Int) (L : Option Addr) (m q : Nat) (l : List EvD) (w : World) (htab : tabT w) (hL : Evs w w.heap.size L m l) (hok : okEs l) :
 Calls Tryz.prog 32 #[.agg #[.int .i64 dp, .int .i64 rs, .slice L m q]] w (TrPost (startB ⟨dp, rs, l⟩) w) := by
 have hsml : smallEs l := ⟨hok.1, fun e he => (hok.2 e he).1⟩
 obtain ⟨WB, hWB⟩ : ∃ WB, WB = (w.alloc (.cells #[.int .i64 dp, .int .i64 rs, .slice L m q] 58)).alloc (.cells #[.int .i64 0, .int .i64 0, .slice none 0 0] 58) := ⟨_, rfl⟩
 have HB0 : Hid (Below w.heap.size w WB) := by subst hWB; exact (Below.new _ _).later (Below.new _ _)
 have HX0 : Hid (Blk WB w.heap.size 58 #[.int .i64 dp, .int .i64 rs, .slice L m q]) := by subst hWB; exact heap_two0 _ _ _
 have HYY : Hid (Blk WB (w.heap.size + 1) 58 #[.int .i64 0, .int .i64 0, .slice none 0 0]) := by subst hWB; exact heap_two1 _ _ _
 have HS : Hid (∀ W', Below WB.heap.size WB W' → W'.cell? ⟨w.heap.size, 0, none⟩ = some (.int .i64 dp) ∧ W'.cell? ⟨w.heap.size, 1, none⟩ = some (.int .i64 rs) ∧ W'.cell? ⟨w.heap.size, 2, none⟩ = some (.slice L m q)) := fun W' hW => ⟨(HX0.out.later hW HX0.out.lt).at 0 rfl, (HX0.out.later hW HX0.out.lt).at 1 rfl, (HX0.out.later hW HX0.out.lt).at 2 rfl⟩
 have HEV : Hid (∀ W, Below WB.heap.size WB W → Evs W W.heap.size L m l) := fun W hW => hL.later (HB0.out.later hW)
 have HK2 := Lib.hid (fun W (hW : Below WB.heap.size WB W) => TransOk_any dp rs L m q l W (tab_later htab (HB0.out.later hW)) (HEV.out W hW) hok)
 have hyz := HYY.out.lt
 have hb3 : startB ⟨dp, rs, l⟩ = if transB ⟨dp, rs, l⟩ = false then (1, zeroT) else if dp = 3 then (17, zeroT) else (0, ⟨dp + 1, rs, l⟩) := rfl
 have HST := Lib.hid hb3
 have hdp : transB ⟨dp, rs, l⟩ = true → 0 ≤ dp ∧ dp ≤ 3 := fun h => by
  unfold transB at h
  simp only [Bool.and_eq_true, decide_eq_true_eq] at h
  exact h.1.1
 have HDP := Lib.hid hdp
 clear hb3 hdp
 generalize transB ⟨dp, rs, l⟩ = xb at *
 obtain ⟨z0, z1, z2⟩ := HS.out _ (Below.refl _ _)
 go_enter Tryz.func32, Tryz.ntmps32
 go_wp2_with fail
 rw [← hWB]
 clear hWB
 refine (HK2.out _ (Below.refl _ _)).mono ?_
 rintro e w2 ⟨rfl, hb2⟩
 have HB2 := Lib.hid hb2
 clear hb2 HK2 z0 z1 z2
 cases xb
 case false =>
  have hb9 := HYY.out.later HB2.out HYY.out.lt
  have s0 := hb9.cell 0
  have s1 := hb9.cell 1
  have s2 := hb9.cell 2
  have f0 := hb9.frozen 0
  have f1 := hb9.frozen 1
  have f2 := hb9.frozen 2
  have fz := hb9.lt
  simp at s0 s1 s2
  go_wp2_with fail
  refine bodyPost_ret (v := .tuple #[.agg #[.int .i64 0, .int .i64 0, .slice none 0 0], .int .i64 1]) (by simp [results, Tryz.results32, go_sem, s0, s1, s2]; try first | exact rfl | exact ⟨rfl, rfl⟩) rfl ?_
  have hR := HST.out.trans (by rfl)
  rw [hR]
  exact tr_end (R := (1, zeroT)) rfl (evsO_nil _ _) hb9 (HB0.out.later HB2.out) (by omega) _ _ _ rfl
 obtain ⟨hd0, hd3⟩ := HDP.out (by first | rfl | trivial)
 obtain ⟨z0, z1, z2⟩ := HS.out _ HB2.out
 by_cases h3 : dp = 3
 case pos =>
  subst h3
  have hb9 := HYY.out.later HB2.out HYY.out.lt
  have s0 := hb9.cell 0
  have s1 := hb9.cell 1
  have s2 := hb9.cell 2
  have f0 := hb9.frozen 0
  have f1 := hb9.frozen 1
  have f2 := hb9.frozen 2
  have fz := hb9.lt
  simp at s0 s1 s2
  go_wp2_with fail
  refine bodyPost_ret (v := .tuple #[.agg #[.int .i64 0, .int .i64 0, .slice none 0 0], .int .i64 17]) (by simp [results, Tryz.results32, go_sem, s0, s1, s2]; try first | exact rfl | exact ⟨rfl, rfl⟩) rfl ?_
  have hR := HST.out.trans (by rfl)
  rw [hR]
  exact tr_end (R := (17, zeroT)) rfl (evsO_nil _ _) hb9 (HB0.out.later HB2.out) (by omega) _ _ _ rfl
 have h3b : (dp == (3 : Int)) = false := beq_eq_false_iff_ne.2 h3
 have hR : startB ⟨dp, rs, l⟩ = (0, ⟨dp + 1, rs, l⟩) := HST.out.trans (by rw [if_neg (by decide), if_neg h3])
 have HR := Lib.hid hR
 clear hR HST HDP
 have HKO := Lib.hid (fun W' (hW : Below WB.heap.size WB W') => copyTrans_any dp rs L m q l W' (HEV.out _ hW) hsml)
 have hw2 := HB2.out.size
 have hw0 := HB0.out.size
 have hwk : IntKind.i64.wrap (dp + 1) = dp + 1 := by rw [IntKind.wrap_i64]; omega
 go_wp2_with fail
 refine (HKO.out _ HB2.out).mono ?_
 rintro e w4 ⟨v', rfl, hsub, hb4⟩
 obtain ⟨AC, cc, rfl, hcc, _⟩ := hsub.reads
 have HB4 := Lib.hid (HB2.out.later hb4)
 have HSUB := Lib.hid hsub
 clear hsub hb4
 have HN := Lib.hid (Below.new w4 (.cells #[.int .i64 (dp + 1), .int .i64 rs, .slice AC l.length cc] 58))
 have hb9 := HYY.out.later HB4.out HYY.out.lt
 have s0 := hb9.cell 0
 have s1 := hb9.cell 1
 have s2 := hb9.cell 2
 have f0 := hb9.frozen 0
 have f1 := hb9.frozen 1
 have f2 := hb9.frozen 2
 have fz := hb9.lt
 simp at s0 s1 s2
 have hw4 := HB4.out.size
 have hq := ((hb9.set_ 0 (.int .i64 (dp + 1))).set_ 1 (.int .i64 rs)).set_ 2 (.slice AC l.length cc)
 have hq' := hq.later (Below.new _ (.cells #[.int .i64 (dp + 1), .int .i64 rs, .slice AC l.length cc] 58)) hq.lt
 have t0 := hq'.cell 0
 have t1 := hq'.cell 1
 have t2 := hq'.cell 2
 simp at t0 t1 t2
 go_wp2_with fail
 refine bodyPost_ret (v := .tuple #[.agg #[.int .i64 (dp + 1), .int .i64 rs, .slice AC l.length cc], .int .i64 0]) (by simp [results, Tryz.results32, go_sem, hwk, t0, t1, t2]; try first | exact rfl | exact ⟨rfl, rfl⟩) rfl ?_
 rw [HR.out]
 try rw [hwk]
 exact TrPost.later (tr_end (w := w) (W := w4) (r := w.heap.size + 1) (R := (0, ⟨dp + 1, rs, l⟩)) (v := .slice AC l.length cc) rfl (HSUB.out.base (show w.heap.size ≤ w2.heap.size by omega)) hb9 (HB0.out.later HB4.out) (by omega) (.int .i64 (dp + 1)) (.int .i64 rs) (.slice AC l.length cc) rfl) (Below.new _ _)
end Go.Proofs.YtgmaamnofhmecaaGreatDoor
