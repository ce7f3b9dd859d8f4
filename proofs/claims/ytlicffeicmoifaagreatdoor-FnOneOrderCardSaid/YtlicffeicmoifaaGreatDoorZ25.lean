import Derived.Test.YtlicffeicmoifaaGreatDoorZ18
import Derived.Test.YtlicffeicmoifaaGreatDoorZ24
set_option linter.unusedSimpArgs false
namespace Go.Proofs.YtlicffeicmoifaaGreatDoor
open Go.RowKit
set_option linter.unusedVariables false
theorem long1_any (s : ByteArray) (w : World) :
 Calls Tryz.prog 256 #[.string s] w fun e w' => e = .returned (.bool (decide (64 < s.size))) ∧ Below w.heap.size w w' := by
 go_enter Tryz.func256, Tryz.ntmps256
 go_wp2_with fail
 go_ret
 exact ⟨ret_bool (by rw [Bool.eq_iff_iff, decide_eq_true_iff, decide_eq_true_iff]; omega), Below.refl _ _⟩
theorem long_one (s : ByteArray) (w : World) (g : Nat) (hg : g = w.heap.size) :
 Calls Tryz.prog 197 #[.slice (some ⟨g, 0, none⟩) 1 1] (w.alloc (.cells #[.string s] 9)) fun e w' => e = .returned (.bool (decide (64 < s.size))) ∧ Below (w.alloc (.cells #[.string s] 9)).heap.size (w.alloc (.cells #[.string s] 9)) w' := by
 subst hg
 have eg : ∀ args w, (callFunc 256 args).run Tryz.prog w = .ok (.enter 256 args) w := enters_of Tryz.func256 (by kernel_rfl) rfl
 have HK := Lib.hid (ContainsFuncS_any 256 #[] (fun s => decide (64 < s.size)) (some ⟨w.heap.size, 0, none⟩) 1 1 [s] (w.alloc (.cells #[.string s] 9)) (strs_lit w _ [s] _ rfl) (by omega) eg (fun s _ W _ => long1_any s W))
 have HE : Hid (([s].any fun s => decide (64 < s.size)) = decide (64 < s.size)) := by unfold Hid; simp
 rw [HE.out] at HK
 clear eg HE
 go_enter Tryz.func197, Tryz.ntmps197
 go_wp2_with fail
 refine HK.out.mono ?_
 rintro e w1 ⟨rfl, hb1⟩
 have HB := Lib.hid hb1
 clear hb1
 go_wp2_with fail
 go_ret
 exact ⟨rfl, HB.out⟩
set_option maxRecDepth 100000 in
set_option maxHeartbeats 16000000 in
theorem resultOk_any (c0 c1 c2 c3 c4 : Value) (d : EvD) (w : World) (htab : tabT w) (h : EvR w w.heap.size c0 c1 c2 c3 c4 d) (hsm : d.small) (hok : okV d.val) :
 Calls Tryz.prog 105 #[.agg #[c0, c1, c2, c3, c4]] w fun e w' => e = .returned (.bool (resB d)) ∧ Below w.heap.size w w' := by
 have HKD := Lib.hid (fun W => countOk_any d.n W)
 have HKS := Lib.hid (fun W => SubOk_any d.val W hsm.2.2)
 have HKG := Lib.hid (fun W (hW : Below w.heap.size w W) => GetSubs_any d.val W (tab_later htab hW) hok hsm.2.2)
 have HKL := Lib.hid (fun W g (hg : g = W.heap.size) => long_one d.val W g hg)
 have HRS : Hid (resB d = if d.kind = 1 then cntB d.n && (decide (d.val.size ≤ 64) && (decide (d.n = 1 ∨ d.n = 11) || decide (d.val = ⟨#[]⟩)))
  else if d.kind = 4 then cntB d.n && decide (d.val = ⟨#[]⟩)
  else if d.kind = 5 then (decide (d.n = 1) || decide (d.n = -1)) && (decide (d.val = ⟨#[]⟩) || subB d.val)
  else if d.kind = 6 then (decide (d.n = 1) && getOkB d.val) || (decide (d.n = 0) && decide (d.val = ⟨#[]⟩))
  else if d.kind = 2 then decide (d.n = 0) && decide (d.val.size ≤ 64)
  else decide (d.kind = 3) && (decide (d.n = 0) && decide (d.val = ⟨#[]⟩))) := rfl
 obtain ⟨rfl, rfl, ⟨S, m, q, rfl, hs, hmq⟩, rfl, rfl⟩ := h
 clear hs hsm hok htab
 unfold GetPost at HKG
 generalize resB d = R at *
 generalize d.name = nm at *
 generalize d.val = vl at *
 generalize d.kind = kd at *
 generalize d.n = nn at *
 have HB3 : Hid (Below w.heap.size w (w.alloc (.cells #[.int .i64 kd, .string nm, .slice S m q, .string vl, .int .i64 nn] 37))) := Below.new _ _
 have HP3 : Hid (Blk (w.alloc (.cells #[.int .i64 kd, .string nm, .slice S m q, .string vl, .int .i64 nn] 37)) w.heap.size 37 #[.int .i64 kd, .string nm, .slice S m q, .string vl, .int .i64 nn]) := heap_alloc_new _ _
 by_cases hk : kd = 1 ∨ kd = 4 ∨ kd = 5 ∨ kd = 6 ∨ kd = 2 ∨ kd = 3
 rotate_left
 · have HE : Hid (R = false) := by
    unfold Hid
    rw [HRS.out, if_neg (by omega), if_neg (by omega), if_neg (by omega), if_neg (by omega), if_neg (by omega), decide_eq_false (show ¬ kd = 3 by omega)]
    rfl
   have h1 : (kd == (1 : Int)) = false := beq_eq_false_iff_ne.2 (by omega)
   have h4 : (kd == (4 : Int)) = false := beq_eq_false_iff_ne.2 (by omega)
   have h5 : (kd == (5 : Int)) = false := beq_eq_false_iff_ne.2 (by omega)
   have h6 : (kd == (6 : Int)) = false := beq_eq_false_iff_ne.2 (by omega)
   have h2 : (kd == (2 : Int)) = false := beq_eq_false_iff_ne.2 (by omega)
   have h3 : (kd == (3 : Int)) = false := beq_eq_false_iff_ne.2 (by omega)
   clear HRS hk
   go_enter Tryz.func105, Tryz.ntmps105
   go_wp2_with fail
   go_ret
   exact ⟨ret_bool HE.out.symm, HB3.out⟩
 rcases hk with rfl | rfl | rfl | rfl | rfl | rfl
 · have HR : Hid (R = (cntB nn && (decide (vl.size ≤ 64) && (decide (nn = 1 ∨ nn = 11) || decide (vl = ⟨#[]⟩))))) := by
    unfold Hid
    rw [HRS.out, if_pos rfl]
   clear HRS
   go_enter Tryz.func105, Tryz.ntmps105
   cases hc : cntB nn
   · have HCN := Lib.hid hc
     rw [hc] at HKD
     clear hc
     go_wp2_with fail
     refine (HKD.out _).mono ?_
     rintro e w4 ⟨rfl, rfl⟩
     have HE : Hid (R = false) := by unfold Hid; rw [HR.out]; simp [HCN.out]
     go_wp2_with fail
     go_ret
     exact ⟨ret_bool HE.out.symm, HB3.out⟩
   · have HCN := Lib.hid hc
     rw [hc] at HKD
     go_wp2_with fail
     refine (HKD.out _).mono ?_
     rintro e w4 ⟨rfl, rfl⟩
     go_wp2_with fail
     refine (HKL.out _ _ (by simp)).mono ?_
     rintro e w5 ⟨rfl, hb5⟩
     have HP5 := Lib.hid ((HP3.out.alloc (.cells #[.string vl] 9)).later hb5 (by have := HP3.out.lt; simp; omega))
     have HB5 := Lib.hid ((HB3.out.later (Below.new _ _)).later hb5)
     clear hb5 HB3
     have HB3 := HB5
     have t0 := HP5.out.cell 0
     have t1 := HP5.out.cell 1
     have t2 := HP5.out.cell 2
     have t3 := HP5.out.cell 3
     have t4 := HP5.out.cell 4
     simp at t0 t1 t2 t3 t4
     by_cases hv : 64 < vl.size
     · rw [decide_eq_true hv]
       have HE : Hid (R = false) := by unfold Hid; rw [HR.out]; simp [show ¬ vl.size ≤ 64 by omega]
       go_wp2_with fail
       go_ret
       exact ⟨ret_bool HE.out.symm, HB3.out⟩
     · rw [decide_eq_false hv]
       have hv' : vl.size ≤ 64 := by omega
       rcases cnt_cases hc with rfl | rfl | rfl | rfl
       · by_cases hv0 : vl = ⟨#[]⟩
         · have el : vl.toList.isEmpty = true := by rw [hv0, toList_data]; rfl
           have HV0 := Lib.hid hv0
           clear hv0
           have HE : Hid (R = true) := by unfold Hid; rw [HR.out]; simp [HCN.out, hv', HV0.out] <;> decide
           go_wp2_with fail
           go_ret
           exact ⟨ret_bool HE.out.symm, HB3.out⟩
         · have el := str_emp hv0
           have HV0 := Lib.hid hv0
           clear hv0
           have HE : Hid (R = false) := by unfold Hid; rw [HR.out]; simp [HCN.out, HV0.out]
           go_wp2_with fail
           go_ret
           exact ⟨ret_bool HE.out.symm, HB3.out⟩
       · have HE : Hid (R = true) := by unfold Hid; rw [HR.out]; simp [HCN.out, hv']
         go_wp2_with fail
         go_ret
         exact ⟨ret_bool HE.out.symm, HB3.out⟩
       · by_cases hv0 : vl = ⟨#[]⟩
         · have el : vl.toList.isEmpty = true := by rw [hv0, toList_data]; rfl
           have HV0 := Lib.hid hv0
           clear hv0
           have HE : Hid (R = true) := by unfold Hid; rw [HR.out]; simp [HCN.out, hv', HV0.out] <;> decide
           go_wp2_with fail
           go_ret
           exact ⟨ret_bool HE.out.symm, HB3.out⟩
         · have el := str_emp hv0
           have HV0 := Lib.hid hv0
           clear hv0
           have HE : Hid (R = false) := by unfold Hid; rw [HR.out]; simp [HCN.out, HV0.out]
           go_wp2_with fail
           go_ret
           exact ⟨ret_bool HE.out.symm, HB3.out⟩
       · have HE : Hid (R = true) := by unfold Hid; rw [HR.out]; simp [HCN.out, hv']
         go_wp2_with fail
         go_ret
         exact ⟨ret_bool HE.out.symm, HB3.out⟩
 · have HR : Hid (R = (cntB nn && decide (vl = ⟨#[]⟩))) := by
    unfold Hid
    rw [HRS.out, if_neg (by decide), if_pos rfl]
   clear HRS
   go_enter Tryz.func105, Tryz.ntmps105
   cases hc : cntB nn
   · have HCN := Lib.hid hc
     rw [hc] at HKD
     clear hc
     go_wp2_with fail
     refine (HKD.out _).mono ?_
     rintro e w4 ⟨rfl, rfl⟩
     have HE : Hid (R = false) := by unfold Hid; rw [HR.out]; simp [HCN.out]
     go_wp2_with fail
     go_ret
     exact ⟨ret_bool HE.out.symm, HB3.out⟩
   · have HCN := Lib.hid hc
     rw [hc] at HKD
     clear hc
     go_wp2_with fail
     refine (HKD.out _).mono ?_
     rintro e w4 ⟨rfl, rfl⟩
     by_cases hv0 : vl = ⟨#[]⟩
     · have el : vl.toList.isEmpty = true := by rw [hv0, toList_data]; rfl
       have HV0 := Lib.hid hv0
       clear hv0
       have HE : Hid (R = true) := by unfold Hid; rw [HR.out]; simp [HCN.out, HV0.out]
       go_wp2_with fail
       go_ret
       exact ⟨ret_bool HE.out.symm, HB3.out⟩
     · have el := str_emp hv0
       have HV0 := Lib.hid hv0
       clear hv0
       have HE : Hid (R = false) := by unfold Hid; rw [HR.out]; simp [HV0.out]
       go_wp2_with fail
       go_ret
       exact ⟨ret_bool HE.out.symm, HB3.out⟩
 · have HR : Hid (R = ((decide (nn = 1) || decide (nn = -1)) && (decide (vl = ⟨#[]⟩) || subB vl))) := by
    unfold Hid
    rw [HRS.out, if_neg (by decide), if_neg (by decide), if_pos rfl]
   clear HRS
   go_enter Tryz.func105, Tryz.ntmps105
   by_cases hn1 : nn = 1
   · subst hn1
     by_cases hv0 : vl = ⟨#[]⟩
     · have el : vl.toList.isEmpty = true := by rw [hv0, toList_data]; rfl
       have HV0 := Lib.hid hv0
       clear hv0
       have HE : Hid (R = true) := by unfold Hid; rw [HR.out]; simp [HV0.out]
       go_wp2_with fail
       go_ret
       exact ⟨ret_bool HE.out.symm, HB3.out⟩
     · have el := str_emp hv0
       have HV0 := Lib.hid hv0
       clear hv0
       cases hz : subB vl
       · have HZ := Lib.hid hz
         rw [hz] at HKS
         clear hz
         go_wp2_with fail
         refine (HKS.out _).mono ?_
         rintro e w4 ⟨rfl, rfl⟩
         have HE : Hid (R = false) := by unfold Hid; rw [HR.out]; simp [HV0.out, HZ.out]
         go_wp2_with fail
         go_ret
         exact ⟨ret_bool HE.out.symm, HB3.out⟩
       · have HZ := Lib.hid hz
         rw [hz] at HKS
         clear hz
         go_wp2_with fail
         refine (HKS.out _).mono ?_
         rintro e w4 ⟨rfl, rfl⟩
         have HE : Hid (R = true) := by unfold Hid; rw [HR.out]; simp [HV0.out, HZ.out]
         go_wp2_with fail
         go_ret
         exact ⟨ret_bool HE.out.symm, HB3.out⟩
   · have hnb1 : (nn == (1 : Int)) = false := beq_eq_false_iff_ne.2 hn1
     by_cases hn2 : nn = -1
     · subst hn2
       by_cases hv0 : vl = ⟨#[]⟩
       · have el : vl.toList.isEmpty = true := by rw [hv0, toList_data]; rfl
         have HV0 := Lib.hid hv0
         clear hv0
         have HE : Hid (R = true) := by unfold Hid; rw [HR.out]; simp [HV0.out]
         go_wp2_with fail
         go_ret
         exact ⟨ret_bool HE.out.symm, HB3.out⟩
       · have el := str_emp hv0
         have HV0 := Lib.hid hv0
         clear hv0
         cases hz : subB vl
         · have HZ := Lib.hid hz
           rw [hz] at HKS
           clear hz
           go_wp2_with fail
           refine (HKS.out _).mono ?_
           rintro e w4 ⟨rfl, rfl⟩
           have HE : Hid (R = false) := by unfold Hid; rw [HR.out]; simp [HV0.out, HZ.out]
           go_wp2_with fail
           go_ret
           exact ⟨ret_bool HE.out.symm, HB3.out⟩
         · have HZ := Lib.hid hz
           rw [hz] at HKS
           clear hz
           go_wp2_with fail
           refine (HKS.out _).mono ?_
           rintro e w4 ⟨rfl, rfl⟩
           have HE : Hid (R = true) := by unfold Hid; rw [HR.out]; simp [HV0.out, HZ.out]
           go_wp2_with fail
           go_ret
           exact ⟨ret_bool HE.out.symm, HB3.out⟩
     · have hnb2 : (nn == (-1 : Int)) = false := beq_eq_false_iff_ne.2 hn2
       have HN1 := Lib.hid hn1
       have HN2 := Lib.hid hn2
       clear hn1 hn2
       have HE : Hid (R = false) := by unfold Hid; rw [HR.out]; simp [HN1.out, HN2.out]
       go_wp2_with fail
       go_ret
       exact ⟨ret_bool HE.out.symm, HB3.out⟩
 · have HR : Hid (R = ((decide (nn = 1) && getOkB vl) || (decide (nn = 0) && decide (vl = ⟨#[]⟩)))) := by
    unfold Hid
    rw [HRS.out, if_neg (by decide), if_neg (by decide), if_neg (by decide), if_pos rfl]
   clear HRS
   go_enter Tryz.func105, Tryz.ntmps105
   go_wp2_with fail
   refine (HKG.out _ HB3.out).mono ?_
   rintro e w4 ⟨u, us, rfl, hpo, huo, hb4⟩
   have HP4 := Lib.hid (HP3.out.later hb4 HP3.out.lt)
   have HB4 := Lib.hid (HB3.out.later hb4)
   clear hb4 hpo huo HB3
   have HB3 := HB4
   have t0 := HP4.out.cell 0
   have t1 := HP4.out.cell 1
   have t2 := HP4.out.cell 2
   have t3 := HP4.out.cell 3
   have t4 := HP4.out.cell 4
   simp at t0 t1 t2 t3 t4
   cases hg : getOkB vl
   · have HG := Lib.hid hg
     clear hg
     by_cases hn0 : nn = 0
     · subst hn0
       by_cases hv0 : vl = ⟨#[]⟩
       · have el : vl.toList.isEmpty = true := by rw [hv0, toList_data]; rfl
         have HV0 := Lib.hid hv0
         clear hv0
         have HE : Hid (R = true) := by unfold Hid; rw [HR.out]; simp [HV0.out]
         go_wp2_with fail
         go_ret
         exact ⟨ret_bool HE.out.symm, HB3.out⟩
       · have el := str_emp hv0
         have HV0 := Lib.hid hv0
         clear hv0
         have HE : Hid (R = false) := by unfold Hid; rw [HR.out]; simp [HV0.out]
         go_wp2_with fail
         go_ret
         exact ⟨ret_bool HE.out.symm, HB3.out⟩
     · have hnb0 : (nn == (0 : Int)) = false := beq_eq_false_iff_ne.2 hn0
       by_cases hn1 : nn = 1
       · subst hn1
         have HE : Hid (R = false) := by unfold Hid; rw [HR.out]; simp [HG.out]
         go_wp2_with fail
         go_ret
         exact ⟨ret_bool HE.out.symm, HB3.out⟩
       · have hnb1 : (nn == (1 : Int)) = false := beq_eq_false_iff_ne.2 hn1
         have HN0 := Lib.hid hn0
         have HN1 := Lib.hid hn1
         clear hn0 hn1
         have HE : Hid (R = false) := by unfold Hid; rw [HR.out]; simp [HN0.out, HN1.out]
         go_wp2_with fail
         go_ret
         exact ⟨ret_bool HE.out.symm, HB3.out⟩
   · have HG := Lib.hid hg
     clear hg
     by_cases hn1 : nn = 1
     · subst hn1
       have HE : Hid (R = true) := by unfold Hid; rw [HR.out]; simp [HG.out]
       go_wp2_with fail
       go_ret
       exact ⟨ret_bool HE.out.symm, HB3.out⟩
     · have hnb1 : (nn == (1 : Int)) = false := beq_eq_false_iff_ne.2 hn1
       have HN1 := Lib.hid hn1
       clear hn1
       by_cases hn0 : nn = 0
       · subst hn0
         by_cases hv0 : vl = ⟨#[]⟩
         · have el : vl.toList.isEmpty = true := by rw [hv0, toList_data]; rfl
           have HV0 := Lib.hid hv0
           clear hv0
           have HE : Hid (R = true) := by unfold Hid; rw [HR.out]; simp [HV0.out]
           go_wp2_with fail
           go_ret
           exact ⟨ret_bool HE.out.symm, HB3.out⟩
         · have el := str_emp hv0
           have HV0 := Lib.hid hv0
           clear hv0
           have HE : Hid (R = false) := by unfold Hid; rw [HR.out]; simp [HV0.out]
           go_wp2_with fail
           go_ret
           exact ⟨ret_bool HE.out.symm, HB3.out⟩
       · have hnb0 : (nn == (0 : Int)) = false := beq_eq_false_iff_ne.2 hn0
         have HN0 := Lib.hid hn0
         clear hn0
         have HE : Hid (R = false) := by unfold Hid; rw [HR.out]; simp [HN0.out, HN1.out]
         go_wp2_with fail
         go_ret
         exact ⟨ret_bool HE.out.symm, HB3.out⟩
 · have HR : Hid (R = (decide (nn = 0) && decide (vl.size ≤ 64))) := by
    unfold Hid
    rw [HRS.out, if_neg (by decide), if_neg (by decide), if_neg (by decide), if_neg (by decide), if_pos rfl]
   clear HRS
   go_enter Tryz.func105, Tryz.ntmps105
   by_cases hn0 : nn = 0
   · subst hn0
     go_wp2_with fail
     refine (HKL.out _ _ (by simp)).mono ?_
     rintro e w5 ⟨rfl, hb5⟩
     have HP5 := Lib.hid ((HP3.out.alloc (.cells #[.string vl] 9)).later hb5 (by have := HP3.out.lt; simp; omega))
     have HB5 := Lib.hid ((HB3.out.later (Below.new _ _)).later hb5)
     clear hb5 HB3
     have HB3 := HB5
     have t0 := HP5.out.cell 0
     have t1 := HP5.out.cell 1
     have t2 := HP5.out.cell 2
     have t3 := HP5.out.cell 3
     have t4 := HP5.out.cell 4
     simp at t0 t1 t2 t3 t4
     by_cases hv : 64 < vl.size
     · rw [decide_eq_true hv]
       have HE : Hid (R = false) := by unfold Hid; rw [HR.out]; simp [show ¬ vl.size ≤ 64 by omega]
       go_wp2_with fail
       go_ret
       exact ⟨ret_bool HE.out.symm, HB3.out⟩
     · rw [decide_eq_false hv]
       have hv' : vl.size ≤ 64 := by omega
       have HE : Hid (R = true) := by unfold Hid; rw [HR.out]; simp [hv']
       go_wp2_with fail
       go_ret
       exact ⟨ret_bool HE.out.symm, HB3.out⟩
   · have hnb0 : (nn == (0 : Int)) = false := beq_eq_false_iff_ne.2 hn0
     have HN0 := Lib.hid hn0
     clear hn0
     have HE : Hid (R = false) := by unfold Hid; rw [HR.out]; simp [HN0.out]
     go_wp2_with fail
     go_ret
     exact ⟨ret_bool HE.out.symm, HB3.out⟩
 · have HR : Hid (R = (decide ((3 : Int) = 3) && (decide (nn = 0) && decide (vl = ⟨#[]⟩)))) := by
    unfold Hid
    rw [HRS.out, if_neg (by decide), if_neg (by decide), if_neg (by decide), if_neg (by decide), if_neg (by decide)]
   clear HRS
   go_enter Tryz.func105, Tryz.ntmps105
   by_cases hn0 : nn = 0
   · subst hn0
     by_cases hv0 : vl = ⟨#[]⟩
     · have el : vl.toList.isEmpty = true := by rw [hv0, toList_data]; rfl
       have HV0 := Lib.hid hv0
       clear hv0
       have HE : Hid (R = true) := by unfold Hid; rw [HR.out]; simp [HV0.out]
       go_wp2_with fail
       go_ret
       exact ⟨ret_bool HE.out.symm, HB3.out⟩
     · have el := str_emp hv0
       have HV0 := Lib.hid hv0
       clear hv0
       have HE : Hid (R = false) := by unfold Hid; rw [HR.out]; simp [HV0.out]
       go_wp2_with fail
       go_ret
       exact ⟨ret_bool HE.out.symm, HB3.out⟩
   · have hnb0 : (nn == (0 : Int)) = false := beq_eq_false_iff_ne.2 hn0
     have HN0 := Lib.hid hn0
     clear hn0
     have HE : Hid (R = false) := by unfold Hid; rw [HR.out]; simp [HN0.out]
     go_wp2_with fail
     go_ret
     exact ⟨ret_bool HE.out.symm, HB3.out⟩
end Go.Proofs.YtlicffeicmoifaaGreatDoor
namespace Go.Proofs.YtlicffeicmoifaaGreatDoor
open Go.RowKit
set_option linter.unusedVariables false
def ordB (ss : List ByteArray) : Bool := decide (0 < ss.length) && (subsB ss || (decide (lastS ss = ⟨#[]⟩) && subsB (ss.take (ss.length - 1))))
theorem subs_snoc (a : List ByteArray) (x : ByteArray) (h : a.length + 1 ≤ 4) : subsB (a ++ [x]) = (subsB a && subB x) := by
 unfold subsB
 rw [List.length_append, List.length_singleton, decide_eq_true h, decide_eq_true (show a.length ≤ 4 by omega), Bool.true_and, Bool.true_and, List.all_append]
 simp
theorem level_ord (ss : List ByteArray) : levelB ss = (decide (ss.length ≤ 4) && ordB ss) := by
 unfold levelB ordB
 rcases List.eq_nil_or_concat ss with rfl | ⟨a, x, rfl⟩
 · rfl
 · have hl : (a.concat x).length = a.length + 1 := by simp
   have ht : (a.concat x).take a.length = a := by simp
   have hx : lastS (a.concat x) = x := by unfold lastS; rw [hl, Nat.add_sub_cancel]; simp
   rw [hl, Nat.add_sub_cancel, ht, hx, decide_eq_true (show 0 < a.length + 1 by omega), Bool.true_and, Bool.true_and]
   by_cases h4 : a.length + 1 ≤ 4
   · rw [decide_eq_true h4, Bool.true_and, Bool.true_and, List.concat_eq_append, subs_snoc a x h4]
     cases subsB a <;> cases subB x <;> cases decide (x = ⟨#[]⟩) <;> rfl
   · rw [decide_eq_false h4]; rfl
theorem where_ord (e : EvD) : whereB e = (nameB e.name && (if e.kind = 5 then decide (e.subs.length ≤ 4) && ordB e.subs else subsB e.subs)) := by
 unfold whereB
 rw [level_ord]
set_option maxRecDepth 100000 in
set_option maxHeartbeats 4000000 in
theorem orderable_any (A : Option Addr) (n q : Nat) (ss : List ByteArray) (w : World) (h : Strs w w.heap.size A n ss) (hn : n ≤ 1048576) (hq : n ≤ q) (hz : ∀ s ∈ ss, s.size ≤ 1048576) :
 Calls Tryz.prog 106 #[.slice A n q] w fun e w' => e = .returned (.bool (ordB ss)) ∧ w = w' := by
 have HK := Lib.hid (SubsOk_any A n q ss w h hn hz)
 have HR : Hid (ordB ss = (decide (0 < ss.length) && (subsB ss || (decide (lastS ss = ⟨#[]⟩) && subsB (ss.take (ss.length - 1)))))) := rfl
 have hl := h.1
 have HS := Lib.hid h
 have HSM := Lib.hid hz
 clear h hz
 generalize ordB ss = R at *
 by_cases hm0 : n = 0
 · subst hm0
   have HE : Hid (R = false) := by unfold Hid; rw [HR.out, hl]; rfl
   go_enter Tryz.func106, Tryz.ntmps106
   go_wp2_with fail
   go_ret
   exact ⟨ret_bool HE.out.symm, rfl⟩
 obtain ⟨m, rfl⟩ : ∃ k, n = k + 1 := ⟨n - 1, by omega⟩
 have hls : lastS ss = ss.getD m ByteArray.empty := by unfold lastS; rw [hl, Nat.add_sub_cancel]
 obtain ⟨sb, so, rfl, hsb, hsc⟩ := HS.out.2 (by omega)
 have k0 := hsc m (by omega)
 rw [← hls] at k0
 have HK3 := Lib.hid (fun cq => SubsOk_any (some ⟨sb, so, none⟩) m cq (ss.take m) w (HS.out.take m (by omega)) (by omega) (fun s hs => HSM.out s (List.mem_of_mem_take hs)))
 rw [hl, Nat.add_sub_cancel, decide_eq_true (show 0 < m + 1 by omega), Bool.true_and] at HR
 have hmqI : (m : Int) ≤ (q : Int) := by omega
 have hm0I : (0 : Int) ≤ (m : Int) := by omega
 have hq0 : ¬ q = 0 := by omega
 have hwm : IntKind.i64.wrap ((m : Int) + 1 - 1) = (m : Int) := by rw [IntKind.wrap_i64]; omega
 have hd0 : (0 : Int) < (m : Int) + 1 := by omega
 have hd1 : decide ((0 : Int) < (m : Int) + 1) = true := decide_eq_true hd0
 clear hsc hls HS HSM
 generalize subsB (ss.take m) = y at *
 generalize subsB ss = z at *
 generalize lastS ss = L at *
 go_enter Tryz.func106, Tryz.ntmps106
 cases z
 · rw [Bool.false_or] at HR
   by_cases hL : L = ⟨#[]⟩
   · have el : L.toList.isEmpty = true := by rw [hL, toList_data]; rfl
     have HE : Hid (R = y) := by unfold Hid; rw [HR.out, decide_eq_true hL]; rfl
     clear hL HR
     go_wp2_with fail
     refine HK.out.mono ?_
     rintro e w2 ⟨rfl, rfl⟩
     go_wp2_with fail
     refine (HK3.out _).mono ?_
     rintro e w2 ⟨rfl, rfl⟩
     go_wp2_with fail
     go_ret
     exact ⟨ret_bool HE.out.symm, rfl⟩
   · have el := str_emp hL
     have HE : Hid (R = false) := by unfold Hid; rw [HR.out, decide_eq_false hL]; rfl
     clear hL HR
     go_wp2_with fail
     refine HK.out.mono ?_
     rintro e w2 ⟨rfl, rfl⟩
     go_wp2_with fail
     go_ret
     exact ⟨ret_bool HE.out.symm, rfl⟩
 · have HE : Hid (R = true) := by unfold Hid; rw [HR.out]; rfl
   clear HR
   go_wp2_with fail
   refine HK.out.mono ?_
   rintro e w2 ⟨rfl, rfl⟩
   go_wp2_with fail
   go_ret
   exact ⟨ret_bool HE.out.symm, rfl⟩
set_option maxRecDepth 100000 in
set_option maxHeartbeats 16000000 in
theorem NoteOk_any (c0 c1 c2 c3 c4 : Value) (d : EvD) (w : World) (htab : tabT w) (h : EvR w w.heap.size c0 c1 c2 c3 c4 d) (hsm : d.small) (hok : okV d.val) :
 Calls Tryz.prog 45 #[.agg #[c0, c1, c2, c3, c4]] w fun e w' => e = .returned (.bool (noteB d)) ∧ Below w.heap.size w w' := by
 have HKR := Lib.hid (fun W (hW : Below w.heap.size w W) => resultOk_any c0 c1 c2 c3 c4 d W (tab_later htab hW) (h.later hW) hsm hok)
 obtain ⟨rfl, rfl, ⟨S, m, q, rfl, hs, hmq⟩, rfl, rfl⟩ := h
 have hm : m ≤ 1048576 := by rw [← hs.1]; exact hsm.2.1.1
 have hz := hsm.2.1.2
 have HK1 := Lib.hid (fun W => NameOk_any d.name W hsm.1)
 have HK2 := Lib.hid (fun W (hW : Below w.heap.size w W) => SubsOk_any S m q d.subs W (hs.later hW) hm hz)
 have HK3 := Lib.hid (fun W (hW : Below w.heap.size w W) => orderable_any S m q d.subs W (hs.later hW) hm hmq hz)
 have HR : Hid (noteB d = ((nameB d.name && (if d.kind = 5 then decide (d.subs.length ≤ 4) && ordB d.subs else subsB d.subs)) && resB d)) := by
  unfold Hid noteB; rw [where_ord]
 rw [hs.1] at HR
 clear hs hsm hok htab hz
 generalize noteB d = R at *
 generalize nameB d.name = x at *
 generalize resB d = rs at *
 generalize ordB d.subs = y at *
 generalize subsB d.subs = z at *
 generalize d.name = nm at *
 generalize d.val = vl at *
 generalize d.kind = kd at *
 generalize d.n = nn at *
 have HB0 : Hid (Below w.heap.size w (w.alloc (.cells #[.int .i64 kd, .string nm, .slice S m q, .string vl, .int .i64 nn] 37))) := Below.new _ _
 have HP0 : Hid (Blk (w.alloc (.cells #[.int .i64 kd, .string nm, .slice S m q, .string vl, .int .i64 nn] 37)) w.heap.size 37 #[.int .i64 kd, .string nm, .slice S m q, .string vl, .int .i64 nn]) := heap_alloc_new _ _
 cases x
 · have HB := HB0
   go_enter Tryz.func45, Tryz.ntmps45
   go_wp2_with fail
   refine (HK1.out _).mono ?_
   rintro e w1 ⟨rfl, rfl⟩
   go_wp2_with fail
   go_ret
   exact ⟨ret_bool (by rw [HR.out]; rfl), HB.out⟩
 rw [Bool.true_and] at HR
 cases rs
 · rw [Bool.and_false] at HR
   go_enter Tryz.func45, Tryz.ntmps45
   go_wp2_with fail
   refine (HK1.out _).mono ?_
   rintro e w1 ⟨rfl, rfl⟩
   go_wp2_with fail
   refine (HKR.out _ HB0.out).mono ?_
   rintro e w2 ⟨rfl, hb2⟩
   have HB := Lib.hid (HB0.out.later hb2)
   have HP := Lib.hid (HP0.out.later hb2 HP0.out.lt)
   clear hb2
   have t0 := HP.out.cell 0
   have t1 := HP.out.cell 1
   have t2 := HP.out.cell 2
   have t3 := HP.out.cell 3
   have t4 := HP.out.cell 4
   simp at t0 t1 t2 t3 t4
   go_wp2_with fail
   go_ret
   exact ⟨ret_bool (HR.out.symm), HB.out⟩
 rw [Bool.and_true] at HR
 by_cases hk : kd = 5
 · rw [if_pos hk] at HR
   subst hk
   by_cases h4 : m ≤ 4
   · have hd2 : decide (m ≤ 4) = true := decide_eq_true h4
     rw [hd2, Bool.true_and] at HR
     clear HK2
     go_enter Tryz.func45, Tryz.ntmps45
     go_wp2_with fail
     refine (HK1.out _).mono ?_
     rintro e w1 ⟨rfl, rfl⟩
     go_wp2_with fail
     refine (HKR.out _ HB0.out).mono ?_
     rintro e w2 ⟨rfl, hb2⟩
     have HB := Lib.hid (HB0.out.later hb2)
     have HP := Lib.hid (HP0.out.later hb2 HP0.out.lt)
     clear hb2
     have t0 := HP.out.cell 0
     have t1 := HP.out.cell 1
     have t2 := HP.out.cell 2
     have t3 := HP.out.cell 3
     have t4 := HP.out.cell 4
     simp at t0 t1 t2 t3 t4
     go_wp2_with fail
     refine (HK3.out _ HB.out).mono ?_
     rintro e w3 ⟨rfl, rfl⟩
     go_wp2_with fail
     go_ret
     exact ⟨ret_bool (HR.out.symm), HB.out⟩
   · have hd2 : decide (m ≤ 4) = false := decide_eq_false h4
     rw [hd2, Bool.false_and] at HR
     go_enter Tryz.func45, Tryz.ntmps45
     go_wp2_with fail
     refine (HK1.out _).mono ?_
     rintro e w1 ⟨rfl, rfl⟩
     go_wp2_with fail
     refine (HKR.out _ HB0.out).mono ?_
     rintro e w2 ⟨rfl, hb2⟩
     have HB := Lib.hid (HB0.out.later hb2)
     have HP := Lib.hid (HP0.out.later hb2 HP0.out.lt)
     clear hb2
     have t0 := HP.out.cell 0
     have t1 := HP.out.cell 1
     have t2 := HP.out.cell 2
     have t3 := HP.out.cell 3
     have t4 := HP.out.cell 4
     simp at t0 t1 t2 t3 t4
     go_wp2_with fail
     go_ret
     exact ⟨ret_bool (HR.out.symm), HB.out⟩
 · rw [if_neg hk] at HR
   have hk1 : (kd == (5 : Int)) = false := beq_eq_false_iff_ne.2 hk
   have HKN := Lib.hid hk
   clear hk
   go_enter Tryz.func45, Tryz.ntmps45
   go_wp2_with fail
   refine (HK1.out _).mono ?_
   rintro e w1 ⟨rfl, rfl⟩
   go_wp2_with fail
   refine (HKR.out _ HB0.out).mono ?_
   rintro e w2 ⟨rfl, hb2⟩
   have HB := Lib.hid (HB0.out.later hb2)
   have HP := Lib.hid (HP0.out.later hb2 HP0.out.lt)
   clear hb2
   have t0 := HP.out.cell 0
   have t1 := HP.out.cell 1
   have t2 := HP.out.cell 2
   have t3 := HP.out.cell 3
   have t4 := HP.out.cell 4
   simp at t0 t1 t2 t3 t4
   go_wp2_with fail
   refine (HK2.out _ HB.out).mono ?_
   rintro e w3 ⟨rfl, rfl⟩
   go_wp2_with fail
   go_ret
   exact ⟨ret_bool (HR.out.symm), HB.out⟩
end Go.Proofs.YtlicffeicmoifaaGreatDoor
