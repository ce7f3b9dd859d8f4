import Derived.Test.YtlicffeicmoifaaGreatDoorZ19
import Derived.Test.YtlicffeicmoifaaGreatDoorZ17
import Derived.Test.YtlicffeicmoifaaGreatDoorZ23
set_option linter.unusedSimpArgs false
namespace Go.Proofs.YtlicffeicmoifaaGreatDoor
open Go.RowKit
set_option linter.unusedVariables false
set_option maxRecDepth 100000 in
set_option maxHeartbeats 4000000 in
theorem l25Where_any (c0 c1 c2 c3 c4 : Value) (d : EvD) (w : World) (h : EvR w w.heap.size c0 c1 c2 c3 c4 d) (hsm : d.small) :
 Calls Tryz.prog 110 #[.agg #[c0, c1, c2, c3, c4]] w fun e w' => e = .returned (.bool (whereB d)) ∧ Below w.heap.size w w' := by
 obtain ⟨rfl, rfl, ⟨S, m, q, rfl, hs, hmq⟩, rfl, rfl⟩ := h
 have hm : m ≤ 1048576 := by rw [← hs.1]; exact hsm.2.1.1
 have hz := hsm.2.1.2
 have HK1 := Lib.hid (fun W => specNameOk_any d.name W hsm.1)
 have HK2 := Lib.hid (fun W (hW : Below w.heap.size w W) => specSubsOk_any S m q d.subs W (hs.later hW) hm hz)
 have HR : Hid (whereB d = (nameB d.name && (if d.kind = 5 then levelB d.subs else subsB d.subs))) := rfl
 have HLV : Hid (levelB d.subs = (decide (0 < d.subs.length) && (decide (d.subs.length ≤ 4) && (subsB (d.subs.take (d.subs.length - 1)) && (decide (lastS d.subs = ⟨#[]⟩) || subB (lastS d.subs)))))) := rfl
 have hl := hs.1
 have HS := Lib.hid hs
 have HSM := Lib.hid hz
 clear hsm hs hz
 generalize whereB d = R at *
 generalize nameB d.name = x at *
 generalize d.name = nm at *
 generalize d.val = vl at *
 generalize d.kind = kd at *
 generalize d.n = nn at *
 have HBX : Hid (Below w.heap.size w (w.alloc (.cells #[.int .i64 kd, .string nm, .slice S m q, .string vl, .int .i64 nn] 37))) := Below.new _ _
 cases x
 · go_enter Tryz.func110, Tryz.ntmps110
   go_wp2_with fail
   refine (HK1.out _).mono ?_
   rintro e w1 ⟨rfl, rfl⟩
   go_wp2_with fail
   go_ret
   exact ⟨ret_bool (by rw [HR.out]; rfl), HBX.out⟩
 · rw [Bool.true_and] at HR
   by_cases hk : kd = 5
   · rw [if_pos hk, HLV.out] at HR
     subst hk
     by_cases hm0 : m = 0
     · subst hm0
       have HE : Hid (R = false) := by unfold Hid; rw [HR.out, hl]; rfl
       go_enter Tryz.func110, Tryz.ntmps110
       go_wp2_with fail
       refine (HK1.out _).mono ?_
       rintro e w1 ⟨rfl, rfl⟩
       go_wp2_with fail
       go_ret
       exact ⟨ret_bool HE.out.symm, HBX.out⟩
     obtain ⟨m, rfl⟩ : ∃ k, m = k + 1 := ⟨m - 1, by omega⟩
     have hls : lastS d.subs = d.subs.getD m ByteArray.empty := by unfold lastS; rw [hl, Nat.add_sub_cancel]
     obtain ⟨sb, so, rfl, hsb, hsc⟩ := HS.out.2 (by omega)
     have k0 := hsc m (by omega)
     rw [← hls] at k0
     have hLz : (lastS d.subs).size ≤ 1048576 := by rw [hls]; exact HSM.out _ (Own.mem_of_getD d.subs m _ (by omega))
     rw [hl, Nat.add_sub_cancel, decide_eq_true (show 0 < m + 1 by omega), Bool.true_and] at HR
     by_cases h4 : m + 1 ≤ 4
     · have HK3 := Lib.hid (fun W cq (hW : Below w.heap.size w W) => specSubsOk_any (some ⟨sb, so, none⟩) m cq (d.subs.take m) W ((HS.out.later hW).take m (by omega)) (by omega) (fun s hs => HSM.out s (List.mem_of_mem_take hs)))
       have HK4 := Lib.hid (fun W => specSubOk_any (lastS d.subs) W hLz)
       rw [decide_eq_true h4, Bool.true_and] at HR
       have hmqI : (m : Int) ≤ (q : Int) := by omega
       have hm0I : (0 : Int) ≤ (m : Int) := by omega
       have hq0 : ¬ q = 0 := by omega
       have hwm : IntKind.i64.wrap ((m : Int) + 1 - 1) = (m : Int) := by rw [IntKind.wrap_i64]; omega
       have hd1 : ¬ (4 : Int) < (m : Int) + 1 := by omega
       have hd2 : decide (4 < m + 1) = false := decide_eq_false (by omega)
       have hmm3 : m ≤ 3 := by omega
       clear hsc hls HLV HK2 HS HSM
       have hk1 := k0
       generalize subsB (d.subs.take m) = y at *
       generalize lastS d.subs = L at *
       go_enter Tryz.func110, Tryz.ntmps110
       go_wp2_with fail
       refine (HK1.out _).mono ?_
       rintro e w1 ⟨rfl, rfl⟩
       have k1 := cell_later HBX.out k0
       clear hk1
       go_wp2_with fail
       refine (HK3.out _ _ HBX.out).mono ?_
       rintro e w2 ⟨rfl, rfl⟩
       cases y
       · go_wp2_with fail
         go_ret
         exact ⟨ret_bool (by rw [HR.out]; rfl), HBX.out⟩
       · rw [Bool.true_and] at HR
         by_cases hL : L = ⟨#[]⟩
         · have el : L.toList.isEmpty = true := by rw [hL, toList_data]; rfl
           have HE : Hid (R = true) := by unfold Hid; rw [HR.out, decide_eq_true hL]; rfl
           clear hL
           go_wp2_with fail
           go_ret
           exact ⟨ret_bool HE.out.symm, HBX.out⟩
         · have el := str_emp hL
           have HE : Hid (R = subB L) := by unfold Hid; rw [HR.out, decide_eq_false hL]; rfl
           clear hL
           generalize subB L = z at *
           go_wp2_with fail
           refine (HK4.out _).mono ?_
           rintro e w3 ⟨rfl, rfl⟩
           go_wp2_with fail
           go_ret
           exact ⟨ret_bool HE.out.symm, HBX.out⟩
     · have HE : Hid (R = false) := by unfold Hid; rw [HR.out, decide_eq_false h4]; rfl
       have hd1 : (4 : Int) < (m : Int) + 1 := by omega
       have hd2 : decide (4 < m + 1) = true := decide_eq_true (by omega)
       have hd3 : 3 < m := by omega
       clear hsc hls HLV k0
       go_enter Tryz.func110, Tryz.ntmps110
       go_wp2_with fail
       refine (HK1.out _).mono ?_
       rintro e w1 ⟨rfl, rfl⟩
       go_wp2_with fail
       go_ret
       exact ⟨ret_bool HE.out.symm, HBX.out⟩
   · rw [if_neg hk] at HR
     have hk1 : (kd == 5) = false := beq_eq_false_iff_ne.2 hk
     have hk2 : (kd != 5) = true := by simpa [bne] using hk1
     clear HLV
     generalize subsB d.subs = y at *
     go_enter Tryz.func110, Tryz.ntmps110
     go_wp2_with fail
     refine (HK1.out _).mono ?_
     rintro e w1 ⟨rfl, rfl⟩
     go_wp2_with fail
     refine (HK2.out _ HBX.out).mono ?_
     rintro e w2 ⟨rfl, rfl⟩
     go_wp2_with fail
     go_ret
     exact ⟨ret_bool HR.out.symm, HBX.out⟩
theorem cnt_cases {n : Int} (h : cntB n = true) : n = 0 ∨ n = 1 ∨ n = 10 ∨ n = 11 := by
 unfold cntB at h
 simpa only [Bool.or_eq_true, decide_eq_true_eq] using h
set_option maxRecDepth 100000 in
set_option maxHeartbeats 16000000 in
theorem specNoteOk_any (c0 c1 c2 c3 c4 : Value) (d : EvD) (w : World) (h : EvR w w.heap.size c0 c1 c2 c3 c4 d) (hsm : d.small) (hok : okV d.val) :
 Calls Tryz.prog 49 #[.agg #[c0, c1, c2, c3, c4]] w fun e w' => e = .returned (.bool (noteB d)) ∧ Below w.heap.size w w' := by
 have HK1 := Lib.hid (fun W (hW : Below w.heap.size w W) => specReadsOf_any c0 c1 c2 c3 c4 d W (h.later hW))
 have HK2 := Lib.hid (fun W (hW : Below w.heap.size w W) => specTurnsOf_any c0 c1 c2 c3 c4 d W (h.later hW))
 have HK3 := Lib.hid (fun W (hW : Below w.heap.size w W) => l25Where_any c0 c1 c2 c3 c4 d W (h.later hW) hsm)
 have HKD := Lib.hid (fun W => l25Data_any d.n W)
 have HKS := Lib.hid (fun W => specSubOk_any d.val W hsm.2.2)
 have HKG := Lib.hid (fun W => specGetSubs_any d.val W hok hsm.2.2)
 have HR : Hid (noteB d = (whereB d && resB d)) := rfl
 have HRS : Hid (resB d = if d.kind = 1 then cntB d.n && (decide (d.val.size ≤ 64) && (decide (d.n = 1 ∨ d.n = 11) || decide (d.val = ⟨#[]⟩)))
  else if d.kind = 4 then cntB d.n && decide (d.val = ⟨#[]⟩)
  else if d.kind = 5 then (decide (d.n = 1) || decide (d.n = -1)) && (decide (d.val = ⟨#[]⟩) || subB d.val)
  else if d.kind = 6 then (decide (d.n = 1) && getOkB d.val) || (decide (d.n = 0) && decide (d.val = ⟨#[]⟩))
  else if d.kind = 2 then decide (d.n = 0) && decide (d.val.size ≤ 64)
  else decide (d.kind = 3) && (decide (d.n = 0) && decide (d.val = ⟨#[]⟩))) := rfl
 have HRD : Hid (readsB d = (decide (d.kind = 1) || (decide (d.kind = 4) || (decide (d.kind = 5) || decide (d.kind = 6))))) := rfl
 have HTD : Hid (turnsB d = (decide (d.kind = 2) || decide (d.kind = 3))) := rfl
 obtain ⟨rfl, rfl, ⟨S, m, q, rfl, hs, hmq⟩, rfl, rfl⟩ := h
 clear hs hsm hok
 unfold GetPost at HKG
 generalize noteB d = R at *
 generalize whereB d = x at *
 generalize resB d = rs at *
 generalize readsB d = rd at *
 generalize turnsB d = td at *
 generalize d.name = nm at *
 generalize d.val = vl at *
 generalize d.kind = kd at *
 generalize d.n = nn at *
 have HBX : Hid (Below w.heap.size w (w.alloc (.cells #[.int .i64 kd, .string nm, .slice S m q, .string vl, .int .i64 nn] 37))) := Below.new _ _
 by_cases hk : kd = 1 ∨ kd = 4 ∨ kd = 5 ∨ kd = 6 ∨ kd = 2 ∨ kd = 3
 rotate_left
 · have HE : Hid (R = false) := by
    unfold Hid
    rw [HR.out, HRS.out, if_neg (by omega), if_neg (by omega), if_neg (by omega), if_neg (by omega), if_neg (by omega), decide_eq_false (show ¬ kd = 3 by omega)]
    simp
   have HRD2 : Hid (rd = false) := by unfold Hid; rw [HRD.out, decide_eq_false (show ¬ kd = 1 by omega), decide_eq_false (show ¬ kd = 4 by omega), decide_eq_false (show ¬ kd = 5 by omega), decide_eq_false (show ¬ kd = 6 by omega)]; rfl
   have HTD2 : Hid (td = false) := by unfold Hid; rw [HTD.out, decide_eq_false (show ¬ kd = 2 by omega), decide_eq_false (show ¬ kd = 3 by omega)]; rfl
   rw [HRD2.out] at HK1
   rw [HTD2.out] at HK2
   clear HRS HRD HTD HRD2 HTD2 hk HR
   go_enter Tryz.func49, Tryz.ntmps49
   go_wp2_with fail
   refine (HK1.out _ HBX.out).mono ?_
   rintro e w1 ⟨rfl, hb1⟩
   have HB1 := Lib.hid (HBX.out.later hb1)
   have HP1 := Lib.hid (Blk.later (heap_alloc_new w (.cells #[.int .i64 kd, .string nm, .slice S m q, .string vl, .int .i64 nn] 37)) hb1 (by simp))
   clear hb1
   have p0 := HP1.out.cell 0
   have p1 := HP1.out.cell 1
   have p2 := HP1.out.cell 2
   have p3 := HP1.out.cell 3
   have p4 := HP1.out.cell 4
   simp at p0 p1 p2 p3 p4
   go_wp2_with fail
   refine (HK2.out _ HB1.out).mono ?_
   rintro e w2 ⟨rfl, hb2⟩
   have HB2 := Lib.hid (HB1.out.later hb2)
   clear hb2 p0 p1 p2 p3 p4
   go_wp2_with fail
   go_ret
   exact ⟨ret_bool HE.out.symm, HB2.out⟩
 rcases hk with rfl | rfl | rfl | rfl | rfl | rfl
 · have HR : Hid (R = (x && (cntB nn && (decide (vl.size ≤ 64) && (decide (nn = 1 ∨ nn = 11) || decide (vl = ⟨#[]⟩)))))) := by
    unfold Hid
    rw [HR.out, HRS.out, if_pos rfl]
   have HRD2 : Hid (rd = true) := by unfold Hid; rw [HRD.out]; rfl
   have HTD2 : Hid (td = false) := by unfold Hid; rw [HTD.out]; rfl
   rw [HRD2.out] at HK1
   rw [HTD2.out] at HK2
   clear HRS HRD HTD HRD2 HTD2
   go_enter Tryz.func49, Tryz.ntmps49
   go_wp2_with fail
   refine (HK1.out _ HBX.out).mono ?_
   rintro e w1 ⟨rfl, hb1⟩
   have HB1 := Lib.hid (HBX.out.later hb1)
   have HP1 := Lib.hid (Blk.later (heap_alloc_new w (.cells #[.int .i64 1, .string nm, .slice S m q, .string vl, .int .i64 nn] 37)) hb1 (by simp))
   clear hb1
   have p0 := HP1.out.cell 0
   have p1 := HP1.out.cell 1
   have p2 := HP1.out.cell 2
   have p3 := HP1.out.cell 3
   have p4 := HP1.out.cell 4
   simp at p0 p1 p2 p3 p4
   go_wp2_with fail
   refine (HK3.out _ HB1.out).mono ?_
   rintro e w3 ⟨rfl, hb3⟩
   have HB3 := Lib.hid (HB1.out.later hb3)
   have HP3 := Lib.hid (HP1.out.later hb3 HP1.out.lt)
   clear hb3 p0 p1 p2 p3 p4 HK1 HK2 HK3
   cases x
   · have HE : Hid (R = false) := by unfold Hid; rw [HR.out]; rfl
     go_wp2_with fail
     go_ret
     exact ⟨ret_bool HE.out.symm, HB3.out⟩
   · rw [Bool.true_and] at HR
     have p0 := HP3.out.cell 0
     have p1 := HP3.out.cell 1
     have p2 := HP3.out.cell 2
     have p3 := HP3.out.cell 3
     have p4 := HP3.out.cell 4
     simp at p0 p1 p2 p3 p4
     by_cases hv : vl.size ≤ 64
     · cases hc : cntB nn
       · have HCN := Lib.hid hc
         rw [hc] at HKD
         clear hc
         go_wp2_with fail
         refine (HKD.out _).mono ?_
         rintro e w4 ⟨rfl, rfl⟩
         have HE : Hid (R = false) := by unfold Hid; rw [HR.out]; simp [HCN.out]
         go_wp2_with fail
         go_ret
         exact ⟨ret_bool HE.out.symm, HB3.out⟩
       · have HCN := Lib.hid hc
         rw [hc] at HKD
         go_wp2_with fail
         refine (HKD.out _).mono ?_
         rintro e w4 ⟨rfl, rfl⟩
         rcases cnt_cases hc with rfl | rfl | rfl | rfl
         · by_cases hv0 : vl = ⟨#[]⟩
           · have el : vl.toList.isEmpty = true := by rw [hv0, toList_data]; rfl
             have HV0 := Lib.hid hv0
             clear hv0
             have HE : Hid (R = true) := by unfold Hid; rw [HR.out]; simp [HCN.out, hv, HV0.out] <;> decide
             go_wp2_with fail
             go_ret
             exact ⟨ret_bool HE.out.symm, HB3.out⟩
           · have el := str_emp hv0
             have HV0 := Lib.hid hv0
             clear hv0
             have HE : Hid (R = false) := by unfold Hid; rw [HR.out]; simp [HCN.out, HV0.out]
             go_wp2_with fail
             go_ret
             exact ⟨ret_bool HE.out.symm, HB3.out⟩
         · have HE : Hid (R = true) := by unfold Hid; rw [HR.out]; simp [HCN.out, hv]
           go_wp2_with fail
           go_ret
           exact ⟨ret_bool HE.out.symm, HB3.out⟩
         · by_cases hv0 : vl = ⟨#[]⟩
           · have el : vl.toList.isEmpty = true := by rw [hv0, toList_data]; rfl
             have HV0 := Lib.hid hv0
             clear hv0
             have HE : Hid (R = true) := by unfold Hid; rw [HR.out]; simp [HCN.out, hv, HV0.out] <;> decide
             go_wp2_with fail
             go_ret
             exact ⟨ret_bool HE.out.symm, HB3.out⟩
           · have el := str_emp hv0
             have HV0 := Lib.hid hv0
             clear hv0
             have HE : Hid (R = false) := by unfold Hid; rw [HR.out]; simp [HCN.out, HV0.out]
             go_wp2_with fail
             go_ret
             exact ⟨ret_bool HE.out.symm, HB3.out⟩
         · have HE : Hid (R = true) := by unfold Hid; rw [HR.out]; simp [HCN.out, hv]
           go_wp2_with fail
           go_ret
           exact ⟨ret_bool HE.out.symm, HB3.out⟩
     · have HE : Hid (R = false) := by unfold Hid; rw [HR.out]; simp [hv]
       go_wp2_with fail
       go_ret
       exact ⟨ret_bool HE.out.symm, HB3.out⟩
 · have HR : Hid (R = (x && (cntB nn && decide (vl = ⟨#[]⟩)))) := by
    unfold Hid
    rw [HR.out, HRS.out, if_neg (by decide), if_pos rfl]
   have HRD2 : Hid (rd = true) := by unfold Hid; rw [HRD.out]; rfl
   have HTD2 : Hid (td = false) := by unfold Hid; rw [HTD.out]; rfl
   rw [HRD2.out] at HK1
   rw [HTD2.out] at HK2
   clear HRS HRD HTD HRD2 HTD2
   go_enter Tryz.func49, Tryz.ntmps49
   go_wp2_with fail
   refine (HK1.out _ HBX.out).mono ?_
   rintro e w1 ⟨rfl, hb1⟩
   have HB1 := Lib.hid (HBX.out.later hb1)
   have HP1 := Lib.hid (Blk.later (heap_alloc_new w (.cells #[.int .i64 4, .string nm, .slice S m q, .string vl, .int .i64 nn] 37)) hb1 (by simp))
   clear hb1
   have p0 := HP1.out.cell 0
   have p1 := HP1.out.cell 1
   have p2 := HP1.out.cell 2
   have p3 := HP1.out.cell 3
   have p4 := HP1.out.cell 4
   simp at p0 p1 p2 p3 p4
   go_wp2_with fail
   refine (HK3.out _ HB1.out).mono ?_
   rintro e w3 ⟨rfl, hb3⟩
   have HB3 := Lib.hid (HB1.out.later hb3)
   have HP3 := Lib.hid (HP1.out.later hb3 HP1.out.lt)
   clear hb3 p0 p1 p2 p3 p4 HK1 HK2 HK3
   cases x
   · have HE : Hid (R = false) := by unfold Hid; rw [HR.out]; rfl
     go_wp2_with fail
     go_ret
     exact ⟨ret_bool HE.out.symm, HB3.out⟩
   · rw [Bool.true_and] at HR
     have p0 := HP3.out.cell 0
     have p1 := HP3.out.cell 1
     have p2 := HP3.out.cell 2
     have p3 := HP3.out.cell 3
     have p4 := HP3.out.cell 4
     simp at p0 p1 p2 p3 p4
     cases hc : cntB nn
     · have HCN := Lib.hid hc
       rw [hc] at HKD
       clear hc
       go_wp2_with fail
       refine (HKD.out _).mono ?_
       rintro e w4 ⟨rfl, rfl⟩
       have HE : Hid (R = false) := by unfold Hid; rw [HR.out]; simp [HCN.out]
       go_wp2_with fail
       go_ret
       exact ⟨ret_bool HE.out.symm, HB3.out⟩
     · have HCN := Lib.hid hc
       rw [hc] at HKD
       clear hc
       go_wp2_with fail
       refine (HKD.out _).mono ?_
       rintro e w4 ⟨rfl, rfl⟩
       by_cases hv0 : vl = ⟨#[]⟩
       · have el : vl.toList.isEmpty = true := by rw [hv0, toList_data]; rfl
         have HV0 := Lib.hid hv0
         clear hv0
         have HE : Hid (R = true) := by unfold Hid; rw [HR.out]; simp [HCN.out, HV0.out]
         go_wp2_with fail
         go_ret
         exact ⟨ret_bool HE.out.symm, HB3.out⟩
       · have el := str_emp hv0
         have HV0 := Lib.hid hv0
         clear hv0
         have HE : Hid (R = false) := by unfold Hid; rw [HR.out]; simp [HV0.out]
         go_wp2_with fail
         go_ret
         exact ⟨ret_bool HE.out.symm, HB3.out⟩
 · have HR : Hid (R = (x && ((decide (nn = 1) || decide (nn = -1)) && (decide (vl = ⟨#[]⟩) || subB vl)))) := by
    unfold Hid
    rw [HR.out, HRS.out, if_neg (by decide), if_neg (by decide), if_pos rfl]
   have HRD2 : Hid (rd = true) := by unfold Hid; rw [HRD.out]; rfl
   have HTD2 : Hid (td = false) := by unfold Hid; rw [HTD.out]; rfl
   rw [HRD2.out] at HK1
   rw [HTD2.out] at HK2
   clear HRS HRD HTD HRD2 HTD2
   go_enter Tryz.func49, Tryz.ntmps49
   go_wp2_with fail
   refine (HK1.out _ HBX.out).mono ?_
   rintro e w1 ⟨rfl, hb1⟩
   have HB1 := Lib.hid (HBX.out.later hb1)
   have HP1 := Lib.hid (Blk.later (heap_alloc_new w (.cells #[.int .i64 5, .string nm, .slice S m q, .string vl, .int .i64 nn] 37)) hb1 (by simp))
   clear hb1
   have p0 := HP1.out.cell 0
   have p1 := HP1.out.cell 1
   have p2 := HP1.out.cell 2
   have p3 := HP1.out.cell 3
   have p4 := HP1.out.cell 4
   simp at p0 p1 p2 p3 p4
   go_wp2_with fail
   refine (HK3.out _ HB1.out).mono ?_
   rintro e w3 ⟨rfl, hb3⟩
   have HB3 := Lib.hid (HB1.out.later hb3)
   have HP3 := Lib.hid (HP1.out.later hb3 HP1.out.lt)
   clear hb3 p0 p1 p2 p3 p4 HK1 HK2 HK3
   cases x
   · have HE : Hid (R = false) := by unfold Hid; rw [HR.out]; rfl
     go_wp2_with fail
     go_ret
     exact ⟨ret_bool HE.out.symm, HB3.out⟩
   · rw [Bool.true_and] at HR
     have p0 := HP3.out.cell 0
     have p1 := HP3.out.cell 1
     have p2 := HP3.out.cell 2
     have p3 := HP3.out.cell 3
     have p4 := HP3.out.cell 4
     simp at p0 p1 p2 p3 p4
     by_cases hv0 : vl = ⟨#[]⟩
     · have el : vl.toList.isEmpty = true := by rw [hv0, toList_data]; rfl
       have HV0 := Lib.hid hv0
       clear hv0
       by_cases hn1 : nn = 1
       · subst hn1
         have HE : Hid (R = true) := by unfold Hid; rw [HR.out]; simp [HV0.out]
         go_wp2_with fail
         go_ret
         exact ⟨ret_bool HE.out.symm, HB3.out⟩
       · have hnb1 : (nn == (1 : Int)) = false := beq_eq_false_iff_ne.2 hn1
         by_cases hn2 : nn = -1
         · subst hn2
           have HE : Hid (R = true) := by unfold Hid; rw [HR.out]; simp [HV0.out]
           go_wp2_with fail
           go_ret
           exact ⟨ret_bool HE.out.symm, HB3.out⟩
         · have hnb2 : (nn == (-1 : Int)) = false := beq_eq_false_iff_ne.2 hn2
           have HN1 := Lib.hid hn1
           have HN2 := Lib.hid hn2
           clear hn1 hn2
           have HE : Hid (R = false) := by unfold Hid; rw [HR.out]; simp [HN1.out, HN2.out]
           go_wp2_with fail
           go_ret
           exact ⟨ret_bool HE.out.symm, HB3.out⟩
     · have el := str_emp hv0
       have HV0 := Lib.hid hv0
       clear hv0
       cases hz : subB vl
       · have HZ := Lib.hid hz
         rw [hz] at HKS
         clear hz
         go_wp2_with fail
         refine (HKS.out _).mono ?_
         rintro e w4 ⟨rfl, rfl⟩
         have HE : Hid (R = false) := by unfold Hid; rw [HR.out]; simp [HV0.out, HZ.out]
         go_wp2_with fail
         go_ret
         exact ⟨ret_bool HE.out.symm, HB3.out⟩
       · have HZ := Lib.hid hz
         rw [hz] at HKS
         clear hz
         go_wp2_with fail
         refine (HKS.out _).mono ?_
         rintro e w4 ⟨rfl, rfl⟩
         by_cases hn1 : nn = 1
         · subst hn1
           have HE : Hid (R = true) := by unfold Hid; rw [HR.out]; simp [HV0.out, HZ.out]
           go_wp2_with fail
           go_ret
           exact ⟨ret_bool HE.out.symm, HB3.out⟩
         · have hnb1 : (nn == (1 : Int)) = false := beq_eq_false_iff_ne.2 hn1
           by_cases hn2 : nn = -1
           · subst hn2
             have HE : Hid (R = true) := by unfold Hid; rw [HR.out]; simp [HV0.out, HZ.out]
             go_wp2_with fail
             go_ret
             exact ⟨ret_bool HE.out.symm, HB3.out⟩
           · have hnb2 : (nn == (-1 : Int)) = false := beq_eq_false_iff_ne.2 hn2
             have HN1 := Lib.hid hn1
             have HN2 := Lib.hid hn2
             clear hn1 hn2
             have HE : Hid (R = false) := by unfold Hid; rw [HR.out]; simp [HN1.out, HN2.out]
             go_wp2_with fail
             go_ret
             exact ⟨ret_bool HE.out.symm, HB3.out⟩
 · have HR : Hid (R = (x && ((decide (nn = 1) && getOkB vl) || (decide (nn = 0) && decide (vl = ⟨#[]⟩))))) := by
    unfold Hid
    rw [HR.out, HRS.out, if_neg (by decide), if_neg (by decide), if_neg (by decide), if_pos rfl]
   have HRD2 : Hid (rd = true) := by unfold Hid; rw [HRD.out]; rfl
   have HTD2 : Hid (td = false) := by unfold Hid; rw [HTD.out]; rfl
   rw [HRD2.out] at HK1
   rw [HTD2.out] at HK2
   clear HRS HRD HTD HRD2 HTD2
   go_enter Tryz.func49, Tryz.ntmps49
   go_wp2_with fail
   refine (HK1.out _ HBX.out).mono ?_
   rintro e w1 ⟨rfl, hb1⟩
   have HB1 := Lib.hid (HBX.out.later hb1)
   have HP1 := Lib.hid (Blk.later (heap_alloc_new w (.cells #[.int .i64 6, .string nm, .slice S m q, .string vl, .int .i64 nn] 37)) hb1 (by simp))
   clear hb1
   have p0 := HP1.out.cell 0
   have p1 := HP1.out.cell 1
   have p2 := HP1.out.cell 2
   have p3 := HP1.out.cell 3
   have p4 := HP1.out.cell 4
   simp at p0 p1 p2 p3 p4
   go_wp2_with fail
   refine (HK3.out _ HB1.out).mono ?_
   rintro e w3 ⟨rfl, hb3⟩
   have HB3 := Lib.hid (HB1.out.later hb3)
   have HP3 := Lib.hid (HP1.out.later hb3 HP1.out.lt)
   clear hb3 p0 p1 p2 p3 p4 HK1 HK2 HK3
   cases x
   · have HE : Hid (R = false) := by unfold Hid; rw [HR.out]; rfl
     go_wp2_with fail
     go_ret
     exact ⟨ret_bool HE.out.symm, HB3.out⟩
   · rw [Bool.true_and] at HR
     have p0 := HP3.out.cell 0
     have p1 := HP3.out.cell 1
     have p2 := HP3.out.cell 2
     have p3 := HP3.out.cell 3
     have p4 := HP3.out.cell 4
     simp at p0 p1 p2 p3 p4
     by_cases hn0 : nn = 0
     · subst hn0
       by_cases hv0 : vl = ⟨#[]⟩
       · have el : vl.toList.isEmpty = true := by rw [hv0, toList_data]; rfl
         have HV0 := Lib.hid hv0
         clear hv0
         have HE : Hid (R = true) := by unfold Hid; rw [HR.out]; simp [HV0.out]
         go_wp2_with fail
         go_ret
         exact ⟨ret_bool HE.out.symm, HB3.out⟩
       · have el := str_emp hv0
         have HV0 := Lib.hid hv0
         clear hv0
         have HE : Hid (R = false) := by unfold Hid; rw [HR.out]; simp [HV0.out]
         go_wp2_with fail
         go_ret
         exact ⟨ret_bool HE.out.symm, HB3.out⟩
     · have hnb0 : (nn == (0 : Int)) = false := beq_eq_false_iff_ne.2 hn0
       have HN0 := Lib.hid hn0
       clear hn0
       go_wp2_with fail
       refine (HKG.out _).mono ?_
       rintro e w4 ⟨u, us, rfl, hpo, huo, hb4⟩
       have HB4 := Lib.hid (HB3.out.later hb4)
       have HP4 := Lib.hid (HP3.out.later hb4 HP3.out.lt)
       have HPO := Lib.hid hpo
       obtain ⟨A4, q4, rfl, hq4, hs4⟩ := Own.SubO.strs huo
       have HS4 := Lib.hid hs4
       clear hb4 hpo huo hs4 p0 p1 p2 p3 p4 HB3
       have HB3 := HB4
       have p0 := HP4.out.cell 0
       have p1 := HP4.out.cell 1
       have p2 := HP4.out.cell 2
       have p3 := HP4.out.cell 3
       have p4 := HP4.out.cell 4
       simp at p0 p1 p2 p3 p4
       by_cases hn1 : nn = 1
       · subst hn1
         cases hg : getOkB vl
         · have HG := Lib.hid hg
           clear hg HPO
           have HE : Hid (R = false) := by unfold Hid; rw [HR.out]; simp [HG.out]
           go_wp2_with fail
           go_ret
           exact ⟨ret_bool HE.out.symm, HB3.out⟩
         · have HG := Lib.hid hg
           have hpu := HPO.out hg
           have hsb := hpu.1
           have hu4 : us.length ≤ 4 := by unfold subsB at hsb; rw [Bool.and_eq_true, decide_eq_true_eq] at hsb; exact hsb.1
           have huz : ∀ s ∈ us, s.size ≤ 1048576 := fun s hs => by
            unfold subsB at hsb
            rw [Bool.and_eq_true, List.all_eq_true] at hsb
            have h2 := hsb.2 s hs
            unfold subB at h2
            rw [Bool.and_eq_true, decide_eq_true_eq, decide_eq_true_eq] at h2
            omega
           have HKB := Lib.hid (specSubsOk_any A4 us.length q4 us w4 HS4.out (by omega) huz)
           rw [hsb] at HKB
           clear hg HPO hpu hsb huz HS4
           generalize us.length = ul at *
           go_wp2_with fail
           refine HKB.out.mono ?_
           rintro e w5 ⟨rfl, rfl⟩
           have HE : Hid (R = true) := by unfold Hid; rw [HR.out]; simp [HG.out]
           go_wp2_with fail
           go_ret
           exact ⟨ret_bool HE.out.symm, HB3.out⟩
       · have hnb1 : (nn == (1 : Int)) = false := beq_eq_false_iff_ne.2 hn1
         have HN1 := Lib.hid hn1
         clear hn1
         have HE : Hid (R = false) := by unfold Hid; rw [HR.out]; simp [HN0.out, HN1.out]
         go_wp2_with fail
         go_ret
         exact ⟨ret_bool HE.out.symm, HB3.out⟩
 · have HR : Hid (R = (x && (decide (nn = 0) && decide (vl.size ≤ 64)))) := by
    unfold Hid
    rw [HR.out, HRS.out, if_neg (by decide), if_neg (by decide), if_neg (by decide), if_neg (by decide), if_pos rfl]
   have HRD2 : Hid (rd = false) := by unfold Hid; rw [HRD.out]; rfl
   have HTD2 : Hid (td = true) := by unfold Hid; rw [HTD.out]; rfl
   rw [HRD2.out] at HK1
   rw [HTD2.out] at HK2
   clear HRS HRD HTD HRD2 HTD2
   go_enter Tryz.func49, Tryz.ntmps49
   go_wp2_with fail
   refine (HK1.out _ HBX.out).mono ?_
   rintro e w1 ⟨rfl, hb1⟩
   have HB1 := Lib.hid (HBX.out.later hb1)
   have HP1 := Lib.hid (Blk.later (heap_alloc_new w (.cells #[.int .i64 2, .string nm, .slice S m q, .string vl, .int .i64 nn] 37)) hb1 (by simp))
   clear hb1
   have p0 := HP1.out.cell 0
   have p1 := HP1.out.cell 1
   have p2 := HP1.out.cell 2
   have p3 := HP1.out.cell 3
   have p4 := HP1.out.cell 4
   simp at p0 p1 p2 p3 p4
   go_wp2_with fail
   refine (HK2.out _ HB1.out).mono ?_
   rintro e w2 ⟨rfl, hb2⟩
   have HB2 := Lib.hid (HB1.out.later hb2)
   have HP2 := Lib.hid (HP1.out.later hb2 HP1.out.lt)
   clear hb2 p0 p1 p2 p3 p4
   have p0 := HP2.out.cell 0
   have p1 := HP2.out.cell 1
   have p2 := HP2.out.cell 2
   have p3 := HP2.out.cell 3
   have p4 := HP2.out.cell 4
   simp at p0 p1 p2 p3 p4
   go_wp2_with fail
   refine (HK3.out _ HB2.out).mono ?_
   rintro e w3 ⟨rfl, hb3⟩
   have HB3 := Lib.hid (HB2.out.later hb3)
   have HP3 := Lib.hid (HP2.out.later hb3 HP2.out.lt)
   clear hb3 p0 p1 p2 p3 p4 HK1 HK2 HK3
   cases x
   · have HE : Hid (R = false) := by unfold Hid; rw [HR.out]; rfl
     go_wp2_with fail
     go_ret
     exact ⟨ret_bool HE.out.symm, HB3.out⟩
   · rw [Bool.true_and] at HR
     have p0 := HP3.out.cell 0
     have p1 := HP3.out.cell 1
     have p2 := HP3.out.cell 2
     have p3 := HP3.out.cell 3
     have p4 := HP3.out.cell 4
     simp at p0 p1 p2 p3 p4
     by_cases hv : vl.size ≤ 64
     · by_cases hn0 : nn = 0
       · subst hn0
         have HE : Hid (R = true) := by unfold Hid; rw [HR.out]; simp [hv]
         go_wp2_with fail
         go_ret
         exact ⟨ret_bool HE.out.symm, HB3.out⟩
       · have hnb0 : (nn == (0 : Int)) = false := beq_eq_false_iff_ne.2 hn0
         have HN0 := Lib.hid hn0
         clear hn0
         have HE : Hid (R = false) := by unfold Hid; rw [HR.out]; simp [HN0.out]
         go_wp2_with fail
         go_ret
         exact ⟨ret_bool HE.out.symm, HB3.out⟩
     · have HE : Hid (R = false) := by unfold Hid; rw [HR.out]; simp [hv]
       go_wp2_with fail
       go_ret
       exact ⟨ret_bool HE.out.symm, HB3.out⟩
 · have HR : Hid (R = (x && (decide ((3 : Int) = 3) && (decide (nn = 0) && decide (vl = ⟨#[]⟩))))) := by
    unfold Hid
    rw [HR.out, HRS.out, if_neg (by decide), if_neg (by decide), if_neg (by decide), if_neg (by decide), if_neg (by decide)]
   have HRD2 : Hid (rd = false) := by unfold Hid; rw [HRD.out]; rfl
   have HTD2 : Hid (td = true) := by unfold Hid; rw [HTD.out]; rfl
   rw [HRD2.out] at HK1
   rw [HTD2.out] at HK2
   clear HRS HRD HTD HRD2 HTD2
   go_enter Tryz.func49, Tryz.ntmps49
   go_wp2_with fail
   refine (HK1.out _ HBX.out).mono ?_
   rintro e w1 ⟨rfl, hb1⟩
   have HB1 := Lib.hid (HBX.out.later hb1)
   have HP1 := Lib.hid (Blk.later (heap_alloc_new w (.cells #[.int .i64 3, .string nm, .slice S m q, .string vl, .int .i64 nn] 37)) hb1 (by simp))
   clear hb1
   have p0 := HP1.out.cell 0
   have p1 := HP1.out.cell 1
   have p2 := HP1.out.cell 2
   have p3 := HP1.out.cell 3
   have p4 := HP1.out.cell 4
   simp at p0 p1 p2 p3 p4
   go_wp2_with fail
   refine (HK2.out _ HB1.out).mono ?_
   rintro e w2 ⟨rfl, hb2⟩
   have HB2 := Lib.hid (HB1.out.later hb2)
   have HP2 := Lib.hid (HP1.out.later hb2 HP1.out.lt)
   clear hb2 p0 p1 p2 p3 p4
   have p0 := HP2.out.cell 0
   have p1 := HP2.out.cell 1
   have p2 := HP2.out.cell 2
   have p3 := HP2.out.cell 3
   have p4 := HP2.out.cell 4
   simp at p0 p1 p2 p3 p4
   go_wp2_with fail
   refine (HK3.out _ HB2.out).mono ?_
   rintro e w3 ⟨rfl, hb3⟩
   have HB3 := Lib.hid (HB2.out.later hb3)
   have HP3 := Lib.hid (HP2.out.later hb3 HP2.out.lt)
   clear hb3 p0 p1 p2 p3 p4 HK1 HK2 HK3
   cases x
   · have HE : Hid (R = false) := by unfold Hid; rw [HR.out]; rfl
     go_wp2_with fail
     go_ret
     exact ⟨ret_bool HE.out.symm, HB3.out⟩
   · rw [Bool.true_and] at HR
     have p0 := HP3.out.cell 0
     have p1 := HP3.out.cell 1
     have p2 := HP3.out.cell 2
     have p3 := HP3.out.cell 3
     have p4 := HP3.out.cell 4
     simp at p0 p1 p2 p3 p4
     by_cases hv0 : vl = ⟨#[]⟩
     · have el : vl.toList.isEmpty = true := by rw [hv0, toList_data]; rfl
       have HV0 := Lib.hid hv0
       clear hv0
       by_cases hn0 : nn = 0
       · subst hn0
         have HE : Hid (R = true) := by unfold Hid; rw [HR.out]; simp [HV0.out]
         go_wp2_with fail
         go_ret
         exact ⟨ret_bool HE.out.symm, HB3.out⟩
       · have hnb0 : (nn == (0 : Int)) = false := beq_eq_false_iff_ne.2 hn0
         have HN0 := Lib.hid hn0
         clear hn0
         have HE : Hid (R = false) := by unfold Hid; rw [HR.out]; simp [HN0.out]
         go_wp2_with fail
         go_ret
         exact ⟨ret_bool HE.out.symm, HB3.out⟩
     · have el := str_emp hv0
       have HV0 := Lib.hid hv0
       clear hv0
       have HE : Hid (R = false) := by unfold Hid; rw [HR.out]; simp [HV0.out]
       go_wp2_with fail
       go_ret
       exact ⟨ret_bool HE.out.symm, HB3.out⟩
end Go.Proofs.YtlicffeicmoifaaGreatDoor
