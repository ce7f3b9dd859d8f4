/-
  What the reference's TakeLock computes.
-/
import Derived.Test.YtiebcdajoddkpaaGreatDoorLkQ2
namespace Go.Proofs.YtiebcdajoddkpaaGreatDoor
open Go.RowKit

theorem okB_nine {held asks : List ItD} (h : okB held asks = true) : ∀ d ∈ held, 0 ≤ d.b ∧ d.b ≤ 9 := by
  unfold okB at h
  rw [Bool.and_eq_true, Bool.and_eq_true] at h
  have hat := allFrom_at held.length 0 h.1.2
  intro d hd
  obtain ⟨j, hj, rfl⟩ := List.getElem_of_mem hd
  have := hat j (by omega) (by omega)
  unfold heldAt hOk1 at this
  have hg : held.getD j default = held[j] := by rw [List.getD_eq_getElem?_getD, List.getElem?_eq_getElem hj]; rfl
  rw [hg] at this
  simp only [inB, Bool.and_eq_true, decide_eq_true_iff] at this
  omega

set_option maxRecDepth 100000 in
set_option maxHeartbeats 2000000 in
theorem specTakeLock_any (A A' : Option Addr) (n c n' c' : Nat) (held asks : List ItD) (job : Int) (nm : ByteArray) (S : Option Addr) (m q : Nat) (ss : List ByteArray) (t : Int) (w : World) (h : Its w w.heap.size A n held) (ha : Its w w.heap.size A' n' asks) (hs : smalls held) (hsa : smalls asks)
    (hS : Strs w w.heap.size S m ss) (hst : (tgt job nm ss).small) :
    Calls Tryz.prog 19 #[.agg #[.slice A n c, .slice A' n' c'], .int .i64 job, .string nm, .slice S m q, .int .i64 t] w (TLPost (tlB held asks job nm ss t) w) := by
  obtain ⟨i0, hi, hz0, hz1, hz2⟩ := info_parts infoAsk
  have hm : m ≤ 1048576 := by rw [← hS.1]; exact hst.2.1
  have hn' : n' ≤ 1048576 := by rw [← ha.1]; exact hsa.1
  have HK1 := Lib.hid (fun W (hW : Below w.heap.size w W) => l24Ok_any A A' n c n' c' held asks W (h.later hW) (ha.later hW) hs hsa)
  have HK2 := Lib.hid (fun W => l24Job_any job W)
  have HK3 := Lib.hid (fun W (hW : Below w.heap.size w W) => l24Thing_any nm S m q ss W hst.1 (hS.later hW) hm hst.2.2)
  have HK4 := Lib.hid (fun W => l00In_any t 0 999999 W)
  have HK5 := Lib.hid (fun W (hW : Below w.heap.size w W) => l24Ask_any A A' n c n' c' asks job W (ha.later hW) hn')
  have HK6 := Lib.hid (fun W (hW : Below w.heap.size w W) => l24Room_any A A' S n c n' c' m q held job nm ss W (h.later hW) hs (hS.later hW) hm)
  have HK7 := Lib.hid (fun W (hW : Below w.heap.size w W) => l24Own_any A A' n c n' c' held asks W (h.later hW) (ha.later hW) hs hsa)
  have HK8 := Lib.hid (fun W (hW : Below w.heap.size w W) => l24Blocks_any A A' S n c n' c' m q held asks job nm ss W (h.later hW) (ha.later hW) hs hsa (hS.later hW) hm)
  have HK9 := Lib.hid (fun (hok : okB held asks = true) base B B' d n2 d' vs us W (hW : Below w.heap.size w W) (ho : OwnIts W base 37 (.slice B held.length d) held vs) (hoa : OwnIts W base 42 (.slice B' n2 d') asks us) (hx : ∀ x ∈ vs, ∀ y ∈ us, apart x y) (hbase : base ≤ W.heap.size) =>
    (l24Hold_any base B B' d n2 d' held vs job nm S m q ss W ho hs (hS.later hW) hst (okB_nine hok)).mono fun _ _ hp => hold_own hbase ho hoa hx (okB_so hok) hp)
  have HKC := Lib.hid (fun W (hW : Below w.heap.size w W) => l24Subs_own S m q ss W (hS.later hW) hm)
  have HT : Hid (tlB held asks job nm ss t = if (okB held asks && inB job 1 4 && thingB nm ss && inB t 0 999999) = true then
    (if 0 ≤ askAt asks job then (false, 5, [], []) else if roomB held job nm ss = false then (false, 4, [], [])
     else if blocksB held asks job nm ss = true then (false, 0, held, asks ++ [⟨job, t, nm, ss⟩]) else (true, 0, acqI held (tgt job nm ss), asks))
  else (false, 1, [], [])) := rfl
  have HOKA := Lib.hid (fun (hok : okB held asks = true) => okB_asks hok)
  clear h ha hs hsa hS hst
  generalize tlB held asks job nm ss t = T at *
  generalize acqI held (tgt job nm ss) = R at *
  generalize roomB held job nm ss = ro at *
  generalize blocksB held asks job nm ss = fr at *
  generalize askAt asks job = aw at *
  generalize okB held asks = x at *
  generalize inB job 1 4 = y at *
  generalize thingB nm ss = z at *
  generalize inB t 0 999999 = y2 at *
  go_enter Tryz.func19, Tryz.ntmps19
  go_wp2_with fail
  refine (HK1.out _ (by exact (Below.new _ _).later (Below.new _ _))).mono ?_
  rintro e w1 ⟨rfl, hb1⟩
  have hbx := Blk.later (heap_two0 w _ _) hb1 (by simp; omega)
  have hby := Blk.later (heap_two1 w _ _) hb1 (by simp)
  have HB := Lib.hid (((Below.new _ _).later (Below.new _ _)).later hb1)
  have HBX := Lib.hid hbx
  have HBY := Lib.hid hby
  have p1 := hbx.cell
  have p2 := hby.cell
  have f2 := hby.frozen
  have z1 := hbx.lt
  have z2 := hby.lt
  clear hb1 hbx hby
  cases x
  · have HE : Hid (T = (false, 1, [], [])) := by unfold Hid; rw [HT.out]; rfl
    go_wp2_with fail
    refine bodyPost_ret (v := .tuple #[.agg #[.slice none 0 0, .slice none 0 0], .bool false, .int .i64 1]) (by simp [results, Tryz.results19, go_sem, p2]) rfl ?_
    exact ⟨_, _, [], [], by rw [HE.out], by rw [HE.out]; exact own_none _ _ _, by rw [HE.out]; exact own_none _ _ _, by simp, (HB.out.setCell (by simp) _).setCell (by simp) _⟩
  · go_wp2_with fail
    refine (HK2.out _).mono ?_
    rintro e w2 ⟨rfl, rfl⟩
    cases y
    · have HE : Hid (T = (false, 1, [], [])) := by unfold Hid; rw [HT.out]; rfl
      go_wp2_with fail
      refine bodyPost_ret (v := .tuple #[.agg #[.slice none 0 0, .slice none 0 0], .bool false, .int .i64 1]) (by simp [results, Tryz.results19, go_sem, p2]) rfl ?_
      exact ⟨_, _, [], [], by rw [HE.out], by rw [HE.out]; exact own_none _ _ _, by rw [HE.out]; exact own_none _ _ _, by simp, (HB.out.setCell (by simp) _).setCell (by simp) _⟩
    · go_wp2_with fail
      refine (HK3.out _ HB.out).mono ?_
      rintro e w2 ⟨rfl, rfl⟩
      cases z
      · have HE : Hid (T = (false, 1, [], [])) := by unfold Hid; rw [HT.out]; rfl
        go_wp2_with fail
        refine bodyPost_ret (v := .tuple #[.agg #[.slice none 0 0, .slice none 0 0], .bool false, .int .i64 1]) (by simp [results, Tryz.results19, go_sem, p2]) rfl ?_
        exact ⟨_, _, [], [], by rw [HE.out], by rw [HE.out]; exact own_none _ _ _, by rw [HE.out]; exact own_none _ _ _, by simp, (HB.out.setCell (by simp) _).setCell (by simp) _⟩
      · go_wp2_with fail
        refine (HK4.out _).mono ?_
        rintro e w2 ⟨rfl, rfl⟩
        cases y2
        · have HE : Hid (T = (false, 1, [], [])) := by unfold Hid; rw [HT.out]; rfl
          go_wp2_with fail
          refine bodyPost_ret (v := .tuple #[.agg #[.slice none 0 0, .slice none 0 0], .bool false, .int .i64 1]) (by simp [results, Tryz.results19, go_sem, p2]) rfl ?_
          exact ⟨_, _, [], [], by rw [HE.out], by rw [HE.out]; exact own_none _ _ _, by rw [HE.out]; exact own_none _ _ _, by simp, (HB.out.setCell (by simp) _).setCell (by simp) _⟩
        · have HT2 : Hid (T = if 0 ≤ aw then (false, 5, [], []) else if ro = false then (false, 4, [], []) else if fr = true then (false, 0, held, asks ++ [⟨job, t, nm, ss⟩]) else (true, 0, R, asks)) := by unfold Hid; rw [HT.out]; rfl
          clear HT HK1 HK2 HK3 HK4
          have HA4 := Lib.hid (HOKA.out trivial)
          go_wp2_with fail
          refine (HK5.out _ HB.out).mono ?_
          rintro e w2 ⟨rfl, hb2⟩
          have HB2 := Lib.hid (HB.out.later hb2)
          have HBX2 := Lib.hid (HBX.out.later hb2 z1)
          have HBY2 := Lib.hid (HBY.out.later hb2 z2)
          clear p1 p2 f2 z1 z2 hb2 HB HBX HBY
          have p1 := HBX2.out.cell
          have p2 := HBY2.out.cell
          have f2 := HBY2.out.frozen
          have z1 := HBX2.out.lt
          have z2 := HBY2.out.lt
          by_cases haw : 0 ≤ aw
          · have HE : Hid (T = (false, 5, [], [])) := by unfold Hid; rw [HT2.out, if_pos haw]
            go_wp2_with fail
            refine bodyPost_ret (v := .tuple #[.agg #[.slice none 0 0, .slice none 0 0], .bool false, .int .i64 5]) (by simp [results, Tryz.results19, go_sem, p2]) rfl ?_
            exact ⟨_, _, [], [], by rw [HE.out], by rw [HE.out]; exact own_none _ _ _, by rw [HE.out]; exact own_none _ _ _, by simp, (HB2.out.setCell (by simp) _).setCell (by simp) _⟩
          · have haw2 : aw < 0 := by omega
            go_wp2_with fail
            refine (HK6.out _ HB2.out).mono ?_
            rintro e w3 ⟨rfl, hb3⟩
            have HB3 := Lib.hid (HB2.out.later hb3)
            have HBX3 := Lib.hid (HBX2.out.later hb3 z1)
            have HBY3 := Lib.hid (HBY2.out.later hb3 z2)
            clear p1 p2 f2 z1 z2 hb3 HB2 HBX2 HBY2
            have p1 := HBX3.out.cell
            have p2 := HBY3.out.cell
            have f2 := HBY3.out.frozen
            have z1 := HBX3.out.lt
            have z2 := HBY3.out.lt
            cases ro
            · have HE : Hid (T = (false, 4, [], [])) := by unfold Hid; rw [HT2.out, if_neg (by omega)]; rfl
              go_wp2_with fail
              refine bodyPost_ret (v := .tuple #[.agg #[.slice none 0 0, .slice none 0 0], .bool false, .int .i64 4]) (by simp [results, Tryz.results19, go_sem, p2]) rfl ?_
              exact ⟨_, _, [], [], by rw [HE.out], by rw [HE.out]; exact own_none _ _ _, by rw [HE.out]; exact own_none _ _ _, by simp, (HB3.out.setCell (by simp) _).setCell (by simp) _⟩
            · go_wp2_with fail
              refine (HK7.out _ HB3.out).mono ?_
              rintro e w4 ⟨v0, v1, vs, us, rfl, hoh, hoa, hxx, hb4⟩
              obtain ⟨A0, cap0, rfl, hcap0, _, _⟩ := own_slice hoh.row
              obtain ⟨A1, cap1, rfl, hcap1, hcm1, _⟩ := own_slice hoa.row
              have HB4 := Lib.hid (HB3.out.later hb4)
              have HBX4 := Lib.hid (HBX3.out.later hb4 z1)
              have HBY4 := Lib.hid (HBY3.out.later hb4 z2)
              have HOH := Lib.hid (hoh.base (show w.heap.size ≤ w3.heap.size from HB3.out.size))
              have HOA := Lib.hid (hoa.base (show w.heap.size ≤ w3.heap.size from HB3.out.size))
              have HXX := Lib.hid hxx
              clear p1 p2 f2 z1 z2 hb4 HB3 HBX3 HBY3 hoh hoa hxx
              have p1 := HBX4.out.cell
              have z1 := HBX4.out.lt
              have z2 := HBY4.out.lt
              have hwz := HB4.out.size
              have hlt4 := HBY4.out.lt
              go_wp2_with fail
              refine (HK8.out _ (by exact HB4.out.later (Below.new _ _))).mono ?_
              rintro e w5 ⟨A9, m9, c9, rfl, hm9, hm9b, hb5⟩
              have HM9 := Lib.hid hm9
              have HB5 := Lib.hid ((HB4.out.later (Below.new _ _)).later hb5)
              have HBY5 := Lib.hid ((HBY4.out.alloc _).later hb5 (by simp; omega))
              have HP5 : Hid (LkO w5 w.heap.size w4.heap.size (.slice A0 held.length cap0) (.slice A1 asks.length cap1) held asks vs us) := 
                ⟨Blk.later (heap_last rfl) hb5 (by simp), hwz, (HOH.out.later (Below.new _ _)).later hb5, (HOA.out.later (Below.new _ _)).later hb5, HXX.out⟩
              clear p1 z1 z2 hb5 hm9 HBY4 HBX4 HB4
              have hsz5 := HB5.out.size
              have p0 := HP5.out.blk.cell
              have zp := HP5.out.blk.lt
              have p2 := HBY5.out.cell
              have f2 := HBY5.out.frozen
              have z2 := HBY5.out.lt
              cases fr
              · have hz9 : m9 = 0 := by have := HM9.out; simp at this; exact this
                subst hz9
                have HE : Hid (T = (true, 0, R, asks)) := by unfold Hid; rw [HT2.out, if_neg (by omega)]; rfl
                go_wp2_with fail
                refine (HK9.out trivial w.heap.size A0 A1 cap0 asks.length cap1 vs us _ HB5.out HP5.out.h HP5.out.a HXX.out hsz5).mono ?_
                rintro e w6 ⟨v6, vs6, rfl, ho6, ha6, hx6, hb6⟩
                obtain ⟨A6, cap6, e6, _⟩ := own_slice ho6.row
                subst e6
                have HB6 := Lib.hid (HB5.out.later hb6)
                have HBY6 := Lib.hid (HBY5.out.later hb6 z2)
                have HO6 := Lib.hid ho6
                have HA6 := Lib.hid ha6
                have HX6 := Lib.hid hx6
                clear p0 zp p2 f2 z2 hb6 ho6 ha6 hx6
                have p2 := HBY6.out.cell
                have f2 := HBY6.out.frozen
                have z2 := HBY6.out.lt
                have HHn : Hid (OwnIts ((w6.setCell ⟨w.heap.size + 1, 0, none⟩ (.slice A6 R.length cap6)).setCell ⟨w.heap.size + 1, 1, none⟩ (.slice A1 asks.length cap1)) w.heap.size 37 (.slice A6 R.length cap6) R vs6) :=
                  (HO6.out.grownOther HBY6.out (by decide) (by decide) (grown_set _ _ _ _)).grownOther (HBY6.out.set_ 0 _) (by decide) (by decide) (grown_set _ _ _ _)
                have HAn : Hid (OwnIts ((w6.setCell ⟨w.heap.size + 1, 0, none⟩ (.slice A6 R.length cap6)).setCell ⟨w.heap.size + 1, 1, none⟩ (.slice A1 asks.length cap1)) w.heap.size 42 (.slice A1 asks.length cap1) asks us) :=
                  (HA6.out.grownOther HBY6.out (by decide) (by decide) (grown_set _ _ _ _)).grownOther (HBY6.out.set_ 0 _) (by decide) (by decide) (grown_set _ _ _ _)
                have HBr := Lib.hid ((HB6.out.setCell (p := ⟨w.heap.size + 1, 0, none⟩) (by simp) (.slice A6 R.length cap6)).setCell (p := ⟨w.heap.size + 1, 1, none⟩) (by simp) (.slice A1 asks.length cap1))
                go_wp2_with fail
                refine bodyPost_ret (v := .tuple #[.agg #[.slice A6 R.length cap6, .slice A1 asks.length cap1], .bool true, .int .i64 0]) (by simp [results, Tryz.results19, go_sem, p2]) rfl ?_
                exact ⟨_, _, vs6, us, by rw [HE.out], by rw [HE.out]; exact HHn.out, by rw [HE.out]; exact HAn.out, HX6.out, HBr.out⟩
              · have hz9 : 0 < m9 := by have := HM9.out; simpa using this
                have hz9b : ((m9 : Int) == 0) = false := by rw [beq_eq_false_iff_ne]; omega
                have HE : Hid (T = (false, 0, held, asks ++ [⟨job, t, nm, ss⟩])) := by unfold Hid; rw [HT2.out, if_neg (by omega)]; rfl
                have f0 := HP5.out.blk.frozen 1
                have HRW := Lib.hid HP5.out.a.row
                have hla := HA4.out
                have hne : w.heap.size + 1 ≠ w4.heap.size := by omega
                clear HT2 HK5 HK6 HK7 HK8 HK9 HM9
                unfold maxLen at hcm1
                generalize hN : asks.length = n2 at *
                have HN := Lib.hid hN
                clear hN
                go_wp2_with fail
                go_region_law (first
                  | (refine step_append_lies _ (by rfl) _ _ _ (by rfl) w.heap.size 42 i0 _ 4 56 Tryz.underlying25 hi hz0 hz1 hz2 rfl (by omega) (.slice A1 n2 cap1) n2 (flat asks us) (by rfl) (by exact HRA.out)
                        ⟨w6.heap.size, 0, none⟩ 1 1 [.int .i64 job, .int .i64 t, .string nm, .slice A2 ss.length cap2] (by rfl) (by rfl) (by exact cells_new w6 #[.int .i64 job, .int .i64 t, .string nm, .slice A2 ss.length cap2] _) (by simp [Value.oneCell'])
                        (by omega) (by unfold maxLen; omega) (by omega) (by simp; omega) (w6.heap.size + 1) (by simp) ?_
                     intro gg cap' w7 hown5 hgrow5 hat hlt2
                     have hbg := ((HP5.out.blk.later HB6.out zp).alloc (.cells #[.int .i64 job, .int .i64 t, .string nm, .slice A2 ss.length cap2] 42)).grown hgrow5 (fun e => own_blk_ne HRW.out HP5.out.blk (by decide) e.symm)
                     have p5 := hbg.cell
                     have f5 := hbg.frozen
                     have z5 := hbg.lt
                     have HBG := Lib.hid hbg
                     have HOW := Lib.hid hown5
                     have HGR := Lib.hid hgrow5
                     have HBYG := Lib.hid (((HBY5.out.later HB6.out z2).alloc (.cells #[.int .i64 job, .int .i64 t, .string nm, .slice A2 ss.length cap2] 42)).grown hgrow5 (fun e => own_blk_ne HRW.out HBY5.out (by decide) e.symm))
                     clear hbg hown5 hgrow5)
                  | (go_simp
                     go_at_call 60
                     refine (HKC.out _ (by exact HB5.out.drew)).mono ?_
                     rintro e w6 ⟨v', rfl, hsub, hb6⟩
                     have HSUB := Lib.hid hsub
                     have HB6 := Lib.hid (undrew hb6)
                     obtain ⟨A2, cap2, rfl, hcap2, _, _⟩ := own_slice hsub
                     clear hsub hb6
                     have q2 := (HP5.out.blk.later HB6.out zp).cell 1
                     simp at q2
                     have z6 := (HP5.out.blk.later HB6.out zp).lt
                     have z3 := Nat.lt_succ_of_lt z6
                     have hsz6 := HB6.out.size
                     have HRA := Lib.hid (own_later (own_later HRW.out HB6.out) (Below.new w6 (.cells #[.int .i64 job, .int .i64 t, .string nm, .slice A2 ss.length cap2] 42)))))
                all_goals
                  have HN2 := Lib.hid (Below.new w6 (.cells #[.int .i64 job, .int .i64 t, .string nm, .slice A2 ss.length cap2] 42))
                  have HO2 := Lib.hid (HP5.out.later HB6.out)
                  have HS2 : Hid (SubO (w6.alloc (.cells #[.int .i64 job, .int .i64 t, .string nm, .slice A2 ss.length cap2] 42)) w.heap.size (.slice A2 ss.length cap2) ss) := own_later (own_base HSUB.out (by have := HB5.out.size; simp; omega)) HN2.out
                  have HLN : Hid (LkO (w7.setCell ⟨w4.heap.size, 1, none⟩ (.slice (some ⟨gg, 0, none⟩) (n2 + 1) cap')) w.heap.size w4.heap.size (.slice A0 held.length cap0) (.slice (some ⟨gg, 0, none⟩) (n2 + 1) cap') held (asks ++ [⟨job, t, nm, ss⟩]) vs (us ++ [.slice A2 ss.length cap2])) := by
                    refine ⟨HBG.out.set_ 1 _, HP5.out.above, ?_, ?_, ?_⟩
                    · exact ((HO2.out.h.later HN2.out).keptRow (HO2.out.a.later HN2.out).row (by decide) (by decide) HGR.out).grownOther HBG.out (by decide) (by decide) (grown_set _ _ _ _)
                    · refine OwnIts.grownOther ?_ HBG.out (by decide) (by decide) (grown_set _ _ _ _)
                      refine OwnIts.snoc (HO2.out.a.later HN2.out) HS2.out (HP5.out.a.fresh HSUB.out (by simp)) ?_ HGR.out (by decide)
                      rw [HN.out]
                      exact HOW.out
                    · intro x' hx y hy
                      rcases List.mem_append.1 hy with hy | hy
                      · exact HP5.out.cross x' hx y hy
                      · rw [List.mem_singleton.1 hy]
                        exact HP5.out.h.fresh HSUB.out (by simp) x' hx
                  have HBN : Hid (Below w.heap.size w (w7.setCell ⟨w4.heap.size, 1, none⟩ (.slice (some ⟨gg, 0, none⟩) (n2 + 1) cap'))) :=
                    (((HB5.out.later HB6.out).later HN2.out).grown HGR.out (by have := HB6.out.size; simp; omega) (fun g hg => (World.ownsRow.lt (own_later HRW.out HB6.out) g hg).1)).setCell hwz _
                  have HBYN := Lib.hid (HBYG.out.far (p := ⟨w4.heap.size, 1, none⟩) (by simpa using hne) (.slice (some ⟨gg, 0, none⟩) (n2 + 1) cap'))
                  have HHn : Hid (OwnIts (((w7.setCell ⟨w4.heap.size, 1, none⟩ (.slice (some ⟨gg, 0, none⟩) (n2 + 1) cap')).setCell ⟨w.heap.size + 1, 0, none⟩ (.slice A0 held.length cap0)).setCell ⟨w.heap.size + 1, 1, none⟩ (.slice (some ⟨gg, 0, none⟩) (n2 + 1) cap')) w.heap.size 37 (.slice A0 held.length cap0) held vs) :=
                    (HLN.out.h.grownOther HBYN.out (by decide) (by decide) (grown_set _ _ _ _)).grownOther (HBYN.out.set_ 0 _) (by decide) (by decide) (grown_set _ _ _ _)
                  have HAn : Hid (OwnIts (((w7.setCell ⟨w4.heap.size, 1, none⟩ (.slice (some ⟨gg, 0, none⟩) (n2 + 1) cap')).setCell ⟨w.heap.size + 1, 0, none⟩ (.slice A0 held.length cap0)).setCell ⟨w.heap.size + 1, 1, none⟩ (.slice (some ⟨gg, 0, none⟩) (n2 + 1) cap')) w.heap.size 42 (.slice (some ⟨gg, 0, none⟩) (n2 + 1) cap') (asks ++ [⟨job, t, nm, ss⟩]) (us ++ [.slice A2 ss.length cap2])) :=
                    (HLN.out.a.grownOther HBYN.out (by decide) (by decide) (grown_set _ _ _ _)).grownOther (HBYN.out.set_ 0 _) (by decide) (by decide) (grown_set _ _ _ _)
                  have HBr := Lib.hid ((HBN.out.setCell (p := ⟨w.heap.size + 1, 0, none⟩) (by simp) (.slice A0 held.length cap0)).setCell (p := ⟨w.heap.size + 1, 1, none⟩) (by simp) (.slice (some ⟨gg, 0, none⟩) (n2 + 1) cap'))
                  clear p5 f5 z5 p0 f0 q2 z6 z3 p2 f2 z2
                  have q0 := HLN.out.blk.cell
                  have z0 := HLN.out.blk.lt
                  have p2 := HBYN.out.cell
                  have f2 := HBYN.out.frozen
                  have z2 := HBYN.out.lt
                  go_wp2_with fail
                  refine bodyPost_ret (v := .tuple #[.agg #[.slice A0 held.length cap0, (.slice (some ⟨gg, 0, none⟩) (n2 + 1) cap')], .bool false, .int .i64 0]) (by simp [results, Tryz.results19, go_sem, p2]) rfl ?_
                  exact ⟨_, _, vs, _, by rw [HE.out], by rw [HE.out]; exact HHn.out, by rw [HE.out]; exact HAn.out, HLN.out.cross, HBr.out⟩
end Go.Proofs.YtiebcdajoddkpaaGreatDoor
