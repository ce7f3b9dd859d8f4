/-
  Rows of the program: what unpacked makes: just what the reference's l29Unpack makes.
-/
import Derived.Test.YtfpcjhajjejpdaaGreatDoorZ26
import Derived.Deep.AppendLies
namespace Go.Proofs.YtfpcjhajjejpdaaGreatDoor
open Go.RowKit
set_option linter.unusedVariables false

theorem isEmpty_ne {s : ByteArray} (h : s ≠ ⟨#[]⟩) : s.toList.isEmpty = false := by
  have := ne_empty h
  cases hs : s.toList with
  | nil => rw [hs] at this; simp at this
  | cons => rfl
theorem pack_kv (cols : List ByteArray) (key val : ByteArray) : packB (rowOfKV cols key val) = if 1 < cols.length then val else ⟨#[]⟩ := by
  unfold packB rowOfKV
  split
  · rw [List.drop_succ_cons, List.drop_zero, cutS_join]
  · rfl
set_option maxRecDepth 100000 in
set_option maxHeartbeats 4000000 in
theorem unpacked_any (b0 b1 b2 b3 : Value) (b : TableD) (key val : ByteArray) (w : World) (hb : TableR w w.heap.size b0 b1 b2 b3 b) (hpos : 0 < b.cols.length) (hn5 : b.cols.length ≤ 5) (hk : key.size ≤ 1048576) (hv : val.size ≤ 64) :
    Calls Tryz.prog 106 #[.agg #[b0, b1, b2, b3], .string key, .string val] w (UnpPost (unpackB b.cols key val) w) := by
  obtain ⟨i0, hi, hz0, hz1, hz2⟩ := info_parts infoS
  have HT := Lib.hid (fun W (hW : Below w.heap.size w W) => hb.later hW)
  have HRS := Lib.hid (rowOf_small b.cols key val hk hv)
  have HKC := Lib.hid (fun W => Split_any val W (by omega))
  have HKR := Lib.hid (fun W (hW : Below w.heap.size w W) r0 (hr : RowR W W.heap.size r0 (rowOfKV b.cols key val)) => rowOk_any b0 b1 b2 b3 r0 b (rowOfKV b.cols key val) W (hb.later hW) hr (rowOf_small b.cols key val hk hv) hpos)
  have HPk := Lib.hid (fun W r0 (hr : RowR W W.heap.size r0 (rowOfKV b.cols key val)) => packed_any r0 (rowOfKV b.cols key val) W hr (rowOf_small b.cols key val hk hv) (by unfold rowOfKV; simp))
  have HPV := Lib.hid (pack_kv b.cols key val)
  have HU : Hid (unpackB b.cols key val = (if ((decide (b.cols.length = 1) && decide (val ≠ ⟨#[]⟩)) || !rowB b.cols (rowOfKV b.cols key val)) = true then none else some (rowOfKV b.cols key val))) := rfl
  have HCL := Lib.hid (cutS_small 94 val)
  have HCN := Lib.hid (cutS_ne 94 val)
  obtain ⟨rfl, rfl, ⟨A2, n2, p2, rfl, s2, k2⟩, ⟨A3, n3, p3, rfl, s3, k3⟩⟩ := hb
  have hl2 := s2.1
  rw [hl2] at HPV
  have HRV : Hid (rowOfKV b.cols key val = key :: (if 1 < n2 then cutS 94 val else [])) := by unfold Hid rowOfKV; rw [hl2]
  rw [hl2] at hpos hn5
  rw [hl2] at HU
  clear s2 s3 hl2
  generalize unpackB b.cols key val = U at *
  generalize rowB b.cols (rowOfKV b.cols key val) = rb at *
  generalize packB (rowOfKV b.cols key val) = PK at *
  generalize rowOfKV b.cols key val = ROW at *
  generalize b.name = nm at *
  generalize b.glob = gl at *
  generalize cutS 94 val = CS at *
  have HB0 := Lib.hid (below_new4 w (.cells #[.string nm, .string gl, .slice A2 n2 p2, .slice A3 n3 p3] 29) (.cells #[.slice none 0 0] 40) (.cells #[.string key] 9) (.cells #[.slice (some ⟨w.heap.size + 1 + 1, 0, none⟩) 1 1] 40))
  have HX0 := Lib.hid (heap_0of4 w (.cells #[.string nm, .string gl, .slice A2 n2 p2, .slice A3 n3 p3] 29) (.cells #[.slice none 0 0] 40) (.cells #[.string key] 9) (.cells #[.slice (some ⟨w.heap.size + 1 + 1, 0, none⟩) 1 1] 40))
  have HX1 := Lib.hid (heap_1of4 w (.cells #[.string nm, .string gl, .slice A2 n2 p2, .slice A3 n3 p3] 29) (.cells #[.slice none 0 0] 40) (.cells #[.string key] 9) (.cells #[.slice (some ⟨w.heap.size + 1 + 1, 0, none⟩) 1 1] 40))
  have HX2 := Lib.hid (heap_2of4 w (.cells #[.string nm, .string gl, .slice A2 n2 p2, .slice A3 n3 p3] 29) (.cells #[.slice none 0 0] 40) (.cells #[.string key] 9) (.cells #[.slice (some ⟨w.heap.size + 1 + 1, 0, none⟩) 1 1] 40))
  have HX3 := Lib.hid (heap_3of4 w (.cells #[.string nm, .string gl, .slice A2 n2 p2, .slice A3 n3 p3] 29) (.cells #[.slice none 0 0] 40) (.cells #[.string key] 9) (.cells #[.slice (some ⟨w.heap.size + 1 + 1, 0, none⟩) 1 1] 40))
  go_enter Tryz.func106, Tryz.ntmps106
  by_cases h1 : n2 = 1
  · subst h1
    have HRV2 : Hid (ROW = [key]) := by unfold Hid; rw [HRV.out, if_neg (by omega)]
    clear HRV
    have HSub : Hid (Own.SubO ((((w.alloc (.cells #[.string nm, .string gl, .slice A2 1 p2, .slice A3 n3 p3] 29)).alloc (.cells #[.slice none 0 0] 40)).alloc (.cells #[.string key] 9)).alloc (.cells #[.slice (some ⟨w.heap.size + 1 + 1, 0, none⟩) 1 1] 40)) w.heap.size (.slice (some ⟨w.heap.size + 1 + 1, 0, none⟩) 1 1) [key]) :=
      Own.sub_of_blk (ss := [key]) HX2.out (by omega) (by simp [maxLen])
    have HPV1 : Hid (PK = ⟨#[]⟩) := by unfold Hid; rw [HPV.out, if_neg (by omega)]
    clear HPV
    rw [HPV1.out] at HPk
    go_wp2_with fail
    refine (HKR.out _ HB0.out _ (by obtain ⟨A, c, e, hc, hs⟩ := HSub.out.strs; rw [HRV2.out]; exact ⟨A, _, c, e, hs, hc⟩)).mono ?_
    rintro e w1 ⟨rfl, hb1⟩
    have HB1 := Lib.hid (HB0.out.later hb1)
    have HY1 := Lib.hid (Blk.later HX1.out hb1 (by first | (simp; done) | (simp; omega)))
    have HY3 := Lib.hid (Blk.later HX3.out hb1 (by first | (simp; done) | (simp; omega)))
    have HS1 : Hid (Own.SubO w1 w.heap.size (.slice (some ⟨w.heap.size + 1 + 1, 0, none⟩) 1 1) [key]) := Own.own_later HSub.out hb1
    have p1 := HY1.out.cell
    have f1 := HY1.out.frozen
    have z1 := HY1.out.lt
    have p3' := HY3.out.cell
    have z3 := HY3.out.lt
    clear hb1
    cases rb
    · have HE2 : Hid (U = none) := by unfold Hid; rw [HU.out]; simp
      go_wp2_with fail
      refine bodyPost_ret (v := .tuple #[.agg #[.slice none 0 0], .int .i64 14]) (by simp [results, Tryz.results106, go_sem, p1]) rfl ?_
      rw [HE2.out]
      exact ⟨_, rfl, Own.sub_nil _ _, HB1.out.setCell (by simp) _⟩
    · go_wp2_with fail
      refine (HPk.out _ _ (by obtain ⟨A, c, e, hc, hs⟩ := HS1.out.strs; rw [HRV2.out]; exact ⟨A, _, c, e, hs, hc⟩)).mono ?_
      rintro e w2 ⟨rfl, hb2⟩
      have HB2 := Lib.hid (HB1.out.later hb2)
      have HS2 := Lib.hid (Own.own_later HS1.out hb2)
      have HZ1 := Lib.hid (HY1.out.later hb2 HY1.out.lt)
      have HZ3 := Lib.hid (HY3.out.later hb2 HY3.out.lt)
      clear p1 f1 z1 p3' z3 hb2
      have p1 := HZ1.out.cell
      have f1 := HZ1.out.frozen
      have z1 := HZ1.out.lt
      have p3' := HZ3.out.cell
      have z3 := HZ3.out.lt
      by_cases hve : val = ⟨#[]⟩
      · have HE2 : Hid (U = some [key]) := by unfold Hid; rw [HU.out, decide_eq_false (show ¬ (val ≠ ⟨#[]⟩) from fun h => h hve), HRV2.out]; simp
        subst hve
        go_wp2_with fail
        refine bodyPost_ret (v := .tuple #[.agg #[.slice (some ⟨w.heap.size + 1 + 1, 0, none⟩) 1 1], .int .i64 0]) (by simp [results, Tryz.results106, go_sem, p1]) rfl ?_
        rw [HE2.out]
        refine ⟨_, rfl, ?_, HB2.out.setCell (by simp) _⟩
        exact World.ownsRow.kept HS2.out (row := some (w.heap.size + 1)) (Own.grown_set _ _ _ _) (.inr (by simp [Value.ownBlock]))
      · have HE2 : Hid (U = none) := by unfold Hid; rw [HU.out, decide_eq_true hve]; simp
        have hbe := str_beq (fun h => hve h.symm : ¬ (⟨#[]⟩ : ByteArray) = val)
        have hbn := str_bne (fun h => hve h.symm : ¬ (⟨#[]⟩ : ByteArray) = val)
        have hbe2 := str_beq hve
        have hbn2 := str_bne hve
        have hbe3 := ne_empty hve
        have hbe4 := isEmpty_ne hve
        clear hve
        go_wp2_with fail
        refine bodyPost_ret (v := .tuple #[.agg #[.slice none 0 0], .int .i64 14]) (by simp [results, Tryz.results106, go_sem, p1]) rfl ?_
        rw [HE2.out]
        exact ⟨_, rfl, Own.sub_nil _ _, HB2.out.setCell (by simp) _⟩
  · have hgt : 1 < n2 := by omega
    have HRV2 : Hid (ROW = key :: CS) := by unfold Hid; rw [HRV.out, if_pos hgt]
    have HPV1 : Hid (PK = val) := by unfold Hid; rw [HPV.out, if_pos hgt]
    rw [HPV1.out] at HPk
    clear HPV
    have HE : Hid (U = if rb = true then some ROW else none) := by
      unfold Hid
      rw [HU.out, decide_eq_false h1]
      cases rb <;> simp
    have hg1 : (1 : Int) < (n2 : Int) := by omega
    have hne1 : ((n2 : Int) == 1) = false := by rw [beq_eq_false_iff_ne]; omega
    have hne2 : (n2 == 1) = false := by rw [beq_eq_false_iff_ne]; omega
    clear HRV HU h1
    have p3' := Blk.cell HX3.out 0
    have f3 := Blk.frozen HX3.out 0
    have z3 := Blk.lt HX3.out
    simp at p3'
    have hsz0 : w.heap.size + 1 + 1 + 1 + 1 = ((((w.alloc (.cells #[.string nm, .string gl, .slice A2 n2 p2, .slice A3 n3 p3] 29)).alloc (.cells #[.slice none 0 0] 40)).alloc (.cells #[.string key] 9)).alloc (.cells #[.slice (some ⟨w.heap.size + 1 + 1, 0, none⟩) 1 1] 40)).heap.size := by simp
    have HRA0 : Hid (Own.SubO ((((w.alloc (.cells #[.string nm, .string gl, .slice A2 n2 p2, .slice A3 n3 p3] 29)).alloc (.cells #[.slice none 0 0] 40)).alloc (.cells #[.string key] 9)).alloc (.cells #[.slice (some ⟨w.heap.size + 1 + 1, 0, none⟩) 1 1] 40)) w.heap.size (.slice (some ⟨w.heap.size + 1 + 1, 0, none⟩) 1 1) [key]) :=
      Own.sub_of_blk (ss := [key]) HX2.out (by omega) (by simp [maxLen])
    go_wp2_with fail
    go_region_law (first
      | (refine step_append_lies _ (by rfl) _ _ _ (by rfl) w.heap.size 9 i0 _ 1 16 Tryz.underlying27 hi hz0 hz1 hz2 rfl (by omega) (.slice (some ⟨w.heap.size + 1 + 1, 0, none⟩) 1 1) 1 [.string key] (by rfl) (by exact HRA.out)
            ⟨gc, 0, none⟩ CS.length cc (CS.map Value.string) (by rfl) (by simp) (by exact HCC.out) (by exact oneCells_strs CS)
            (by have := HCN.out; omega) (by unfold maxLen; have := HCL.out.1; omega) (by have := HCL.out.1; omega) (by omega) w4.heap.size rfl ?_
         intro gg cap' w5 hown5 hgrow5 hat hlt2
         have hbg := (Blk.later HX3.out HB4.out (by omega)).grown hgrow5 (by simp [Value.ownBlock])
         have p5 := hbg.cell
         have f5 := hbg.frozen
         have z5 := hbg.lt
         have HBG := Lib.hid hbg
         have HOW := Lib.hid hown5
         have HGR := Lib.hid hgrow5
         clear hbg hown5 hgrow5)
      | (go_simp
         go_at_call 164
         refine (HKC.out _).mono ?_
         rintro e w4 ⟨v', rfl, hsub, hb4⟩
         have HB4 := Lib.hid (undrew hb4)
         obtain ⟨AC, cc, rfl, hcc, hmc, hac⟩ := Own.own_slice hsub
         obtain ⟨gc, rfl, hgc, hgcb⟩ := hac HCN.out
         have HCC := Lib.hid (World.ownsRow.cells (g := gc) hsub rfl)
         clear hsub hb4
         have q2 := (Blk.later HX3.out HB4.out (by omega)).cell 0
         simp at q2
         have z6 := (Blk.later HX3.out HB4.out (by omega)).lt
         have hsz6 := HB4.out.size
         have HRA := Lib.hid (Own.own_later HRA0.out HB4.out)))
    all_goals
      have hgn : gg ≠ w.heap.size + 1 + 1 + 1 := by
        rcases hat with h | h
        · simp [Value.ownBlock] at h; omega
        · omega
      have hgn1 : gg ≠ w.heap.size + 1 := by
        rcases hat with h | h
        · simp [Value.ownBlock] at h; omega
        · omega
      have HS5 : Hid (Own.SubO (w5.setCell ⟨w.heap.size + 1 + 1 + 1, 0, none⟩ (.slice (some ⟨gg, 0, none⟩) (1 + CS.length) cap')) w.heap.size (.slice (some ⟨gg, 0, none⟩) (1 + CS.length) cap') (key :: CS)) := by
        have h := World.ownsRow.kept HOW.out (row := some (w.heap.size + 1 + 1 + 1)) (Own.grown_set w5 (w.heap.size + 1 + 1 + 1) 0 (.slice (some ⟨gg, 0, none⟩) (1 + CS.length) cap')) (.inr (by simpa [Value.ownBlock] using hgn))
        unfold Hid Own.SubO
        rw [List.length_cons, Nat.add_comm CS.length 1]
        exact h
      have HB5 := Lib.hid (((HB0.out.later HB4.out).grown HGR.out (by omega) (fun g hg => by simp [Value.ownBlock] at hg; omega)).setCell (p := ⟨w.heap.size + 1 + 1 + 1, 0, none⟩) (by simp; omega) (.slice (some ⟨gg, 0, none⟩) (1 + CS.length) cap'))
      have HZ0 := Lib.hid (((Blk.later HX0.out HB4.out (by omega)).grown HGR.out (by simp [Value.ownBlock]; omega)).far (p := ⟨w.heap.size + 1 + 1 + 1, 0, none⟩) (by simp; omega) (.slice (some ⟨gg, 0, none⟩) (1 + CS.length) cap'))
      have HZ1 := Lib.hid (((Blk.later HX1.out HB4.out (by omega)).grown HGR.out (by simp [Value.ownBlock])).far (p := ⟨w.heap.size + 1 + 1 + 1, 0, none⟩) (by simp) (.slice (some ⟨gg, 0, none⟩) (1 + CS.length) cap'))
      have HZ3 := Lib.hid (HBG.out.set_ 0 (.slice (some ⟨gg, 0, none⟩) (1 + CS.length) cap'))
      have y0 := HZ0.out.cell 0
      have y1 := HZ0.out.cell 1
      have y2 := HZ0.out.cell 2
      have y3 := HZ0.out.cell 3
      have y4 := HZ3.out.cell 0
      simp at y0 y1 y2 y3 y4
      obtain ⟨W5, hW5⟩ : ∃ W5, W5 = w5.setCell ⟨w.heap.size + 1 + 1 + 1, 0, none⟩ (.slice (some ⟨gg, 0, none⟩) (1 + CS.length) cap') := ⟨_, rfl⟩
      rw [← hW5] at HS5 HB5 HZ0 HZ1 HZ3 y0 y1 y2 y3 y4 ⊢
      clear hW5 p3' f3 z3 p5 f5 z5 q2 z6 HBG HOW HGR
      go_wp2_with fail
      refine (HKR.out _ HB5.out _ (by obtain ⟨A, c, e, hc, hs⟩ := HS5.out.strs; rw [HRV2.out]; exact ⟨A, _, c, e, hs, hc⟩)).mono ?_
      rintro e w6 ⟨rfl, hb6⟩
      have HB6 := Lib.hid (HB5.out.later hb6)
      have HY1 := Lib.hid (HZ1.out.later hb6 HZ1.out.lt)
      have HY3 := Lib.hid (HZ3.out.later hb6 HZ3.out.lt)
      have HS6 : Hid (Own.SubO w6 w.heap.size (.slice (some ⟨gg, 0, none⟩) (1 + CS.length) cap') (key :: CS)) := Own.own_later HS5.out hb6
      have p1 := HY1.out.cell
      have f1 := HY1.out.frozen
      have z1 := HY1.out.lt
      have p3' := HY3.out.cell 0
      have z3 := HY3.out.lt
      simp at p3'
      clear hb6 y0 y1 y2 y3 y4
      cases rb
      · have HE2 : Hid (U = none) := by unfold Hid; rw [HE.out]; rfl
        go_wp2_with fail
        refine bodyPost_ret (v := .tuple #[.agg #[.slice none 0 0], .int .i64 14]) (by simp [results, Tryz.results106, go_sem, p1]) rfl ?_
        rw [HE2.out]
        exact ⟨_, rfl, Own.sub_nil _ _, HB6.out.setCell (by simp) _⟩
      · go_wp2_with fail
        refine (HPk.out _ _ (by obtain ⟨A, c, e, hc, hs⟩ := HS6.out.strs; rw [HRV2.out]; exact ⟨A, _, c, e, hs, hc⟩)).mono ?_
        rintro e w7 ⟨rfl, hb7⟩
        have HB7 := Lib.hid (HB6.out.later hb7)
        have HS7 := Lib.hid (Own.own_later HS6.out hb7)
        have HV1 := Lib.hid (HY1.out.later hb7 HY1.out.lt)
        have HV3 := Lib.hid (HY3.out.later hb7 HY3.out.lt)
        clear p1 f1 z1 p3' z3 hb7
        have p1 := HV1.out.cell
        have f1 := HV1.out.frozen
        have z1 := HV1.out.lt
        have p3' := HV3.out.cell 0
        have z3 := HV3.out.lt
        simp at p3'
        have HE2 : Hid (U = some (key :: CS)) := by unfold Hid; rw [HE.out, HRV2.out]; rfl
        go_wp2_with fail
        refine bodyPost_ret (v := .tuple #[.agg #[(.slice (some ⟨gg, 0, none⟩) (1 + CS.length) cap')], .int .i64 0]) (by simp [results, Tryz.results106, go_sem, p1]) rfl ?_
        rw [HE2.out]
        refine ⟨_, rfl, ?_, HB7.out.setCell (by simp) _⟩
        exact World.ownsRow.kept HS7.out (row := some (w.heap.size + 1)) (Own.grown_set _ _ _ _) (.inr (by simpa [Value.ownBlock] using hgn1))
end Go.Proofs.YtfpcjhajjejpdaaGreatDoor
