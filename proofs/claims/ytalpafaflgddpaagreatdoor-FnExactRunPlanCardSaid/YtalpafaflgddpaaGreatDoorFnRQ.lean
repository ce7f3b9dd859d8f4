/-
  Rows of the program: strings.Split at the mark, what packed and unpacked make. Rows of the program: what unpacked makes: just what the reference's l29Unpack makes. Rows of the program: what rowsOf makes: just what the reference's l29Rows makes. What is made of rows, plainly: round by round. Queries of the program: what result makes of rows: just what the reference's l30Made makes. Queries of the reference: what l30Made makes of rows. Plain facts for RunQuery; rows of the call's own read as rows. Queries of the reference: what RunQuery answers. (Printed by gen_rq.py.) Queries of the program: what RunQuery answers. (Printed by gen_rq.py.) What markTree, markTable and markQuery change; what markRowS writes, and that heldRowS finds it; eqRowS on equal rows. (Printed by gen_lwq.py.) What markRowS writes, and that heldRowS finds it; eqRowS on equal rows. (Printed by gen_lwq2.py.) FnExactRunQuery returns true, and leaves its arguments as they were; over the table of powers of ten. (Printed by gen_fnpc.py.)
-/
import Derived.Test.YtalpafaflgddpaaGreatDoorRi4
import Derived.Test.YtalpafaflgddpaaGreatDoorRw6
import Derived.Test.YtalpafaflgddpaaGreatDoorShelf
import Derived.Test.YtalpafaflgddpaaGreatDoorShelf3
import Derived.Lib.IndexBytes
import Derived.Deep.AppendLies
import Derived.Deep.RegionHeld3
import Derived.Deep.DeepCutAuto
import Derived.Test.YtalpafaflgddpaaGreatDoorTrI
import Derived.Test.YtalpafaflgddpaaGreatDoorPi5
namespace Go.Proofs.YtalpafaflgddpaaGreatDoor
open Go.RowKit

set_option maxHeartbeats 1000000 in
theorem Split_any (s : ByteArray) (w : World) (hs : s.size ≤ 1048576) :
    Calls Tryz.prog 132 #[.string s, .string ⟨#[94]⟩] w fun e w' => ∃ v, e = .returned v ∧ Own.SubO w' w.heap.size v (cutS 94 s) ∧ Below w.heap.size w w' := by
  have hle := Lib.countB_le ⟨#[94]⟩ (by decide) s.size s (Nat.le_refl _)
  have hlen := Lib.splitB_all ⟨#[94]⟩ (by decide) 0 _ s rfl
  have c := Any.strings_genSplit_core Tryz.lays221 (by kernel_rfl) s ⟨#[94]⟩ 0 (-1) (Lib.countB s ⟨#[94]⟩ + 1) w (by omega) (by decide) (Nat.zero_le _)
    (fun x c hx => (Tryz.strings_Index_one x 94 _).mono fun e w' ⟨he, hw⟩ => ⟨by rw [he]; show _ = Ending.returned (Value.int .i64 (Lib.index x.data.toList [94])); rw [Lib.index_one], hw⟩)
    ((Tryz.strings_Count_one s 94 w).mono fun e w' ⟨he, hw⟩ => ⟨by rw [he]; show _ = Ending.returned (Value.int .i64 ((Lib.count s.data.toList [94] : Nat) : Int)); rw [Lib.count_one]; rfl, hw⟩)
    (by decide) (by decide) (by rw [if_pos (by decide)]; omega)
  rw [Nat.add_sub_cancel, hlen] at c
  have e2 : Lib.cellsOf (Lib.splitB ⟨#[94]⟩ 0 (Lib.countB s ⟨#[94]⟩) s) (Lib.countB s ⟨#[94]⟩ + 1) = ((Lib.splitB ⟨#[94]⟩ 0 (Lib.countB s ⟨#[94]⟩) s).map Value.string).toArray := by rw [← hlen]; exact Lib.cellsOf_full _
  rw [e2, split_cutS] at c
  rw [split_cutS] at hlen
  have HN : Hid (Lib.countB s ⟨#[94]⟩ + 1 = (cutS 94 s).length) := hlen.symm
  rw [HN.out] at c
  have hml : (cutS 94 s).length ≤ s.size + 1 := by rw [hlen]; omega
  have HC := Lib.hid c
  clear c e2 hlen hle
  generalize cutS 94 s = ss at *
  go_enter Tryz.func132, Tryz.ntmps132
  go_wp2_with fail
  refine HC.out.mono ?_
  rintro e w1 ⟨rfl, rfl⟩
  go_wp2_with fail
  go_ret
  exact ⟨_, rfl, Own.sub_of_blk (ss := ss) (heap_last rfl) (Nat.le_refl _) (by unfold maxLen; omega), Below.new _ _⟩

/-- The text of a row's cells behind the first. -/
def packB (row : List ByteArray) : ByteArray := ⟨(Lib.join ((row.drop 1).map (·.data.toList)) [94]).toArray⟩
theorem join_le (c : UInt8) (m : Nat) : ∀ (l : List (List UInt8)), (∀ x ∈ l, x.length ≤ m) → (Lib.join l [c]).length ≤ l.length * (m + 1)
  | [], _ => by simp [Lib.join, List.intercalate]
  | [x], h => by
    have := h x (by simp)
    rw [join_oneL]
    simp; omega
  | x :: y :: r, h => by
    have ih := join_le c m (y :: r) (fun z hz => h z (List.mem_cons_of_mem _ hz))
    have := h x (by simp)
    rw [join_cons2]
    simp only [List.length_append, List.length_cons, List.length_nil] at ih ⊢
    rw [Nat.add_mul (r.length + 1)]
    omega
theorem pack_le (row : List ByteArray) (h : ∀ s ∈ row, s.size ≤ 1048576) (hl : row.length ≤ 1048576) : (Lib.join ((row.drop 1).map (·.data.toList)) [94]).length ≤ 140737488355328 := by
  have h1 := join_le 94 1048576 ((row.drop 1).map (·.data.toList)) (fun x hx => by
    obtain ⟨s, hs, rfl⟩ := List.mem_map.1 hx
    have := h s (List.mem_of_mem_drop hs)
    rw [Lib.size_eq] at this
    exact this)
  have h2 : ((row.drop 1).map (·.data.toList)).length ≤ 1048576 := by rw [List.length_map, List.length_drop]; omega
  have h3 := Nat.mul_le_mul_right 1048577 h2
  omega
set_option maxHeartbeats 1000000 in
theorem packed_any (r0 : Value) (row : List ByteArray) (w : World) (hr : RowR w w.heap.size r0 row) (hs : smallR row) (hpos : 0 < row.length) :
    Calls Tryz.prog 134 #[.agg #[r0]] w fun e w' => e = .returned (.string (packB row)) ∧ Below w.heap.size w w' := by
  have HL := Lib.hid (pack_le row hs.2 hs.1)
  obtain ⟨R0, rn, rc, rfl, hS, hrc⟩ := hr
  have hln := hS.1
  have hn : rn ≤ 1048576 := by rw [← hln]; exact hs.1
  obtain ⟨rb, ro, rfl, hrb, hcell⟩ := hS.2 (by omega)
  have HP : Hid (packB row = ⟨(Lib.join ((row.drop 1).map (·.data.toList)) [94]).toArray⟩) := rfl
  have HB0 := Lib.hid (Below.new w (.cells #[.slice (some ⟨rb, ro, none⟩) rn rc] 90))
  have HE0 : Hid (rn = 1 → packB row = ⟨#[]⟩) := fun h => by
    unfold packB
    rw [List.drop_of_length_le (by omega)]
    rfl
  have HK : Hid (∀ W, Below w.heap.size w W → Calls Tryz.prog 159 #[.slice (some ⟨rb, ro + 1, none⟩) (rn - 1) (rc - 1), .string ⟨#[94]⟩] W fun e w' => e = .returned (.string (packB row)) ∧ Below W.heap.size W w') := fun W hW => by
    have h := Tryz.strings_Join rb (ro + 1) (rc - 1) (row.drop 1) ⟨#[94]⟩ W (fun j x hx => by
      rw [List.getElem?_drop] at hx
      have hj : 1 + j < row.length := by
        rcases Nat.lt_or_ge (1 + j) row.length with h | h
        · exact h
        · rw [List.getElem?_eq_none h] at hx; cases hx
      have h1 := (hW.cell (p := ⟨rb, ro + (1 + j), none⟩) hrb).trans (hcell (1 + j) (by omega))
      rw [List.getD_eq_getElem?_getD, hx] at h1
      rw [Nat.add_assoc]
      exact h1) (Nat.lt_of_lt_of_le hrb hW.size) (by rw [List.length_drop]; omega) (by rw [List.length_drop]; omega) HL.out
    rw [List.length_drop, hln] at h
    exact h
  have hrn : (1 : Int) ≤ (rn : Int) := by omega
  clear hS hcell hs
  generalize packB row = R at *
  go_enter Tryz.func134, Tryz.ntmps134
  by_cases hc1 : rc = 1
  · obtain rfl : rn = 1 := by omega
    subst hc1
    have HE := Lib.hid (HE0.out rfl)
    have HJ := Lib.hid (fun W => Tryz.strings_Join_none (some ⟨rb, ro, none⟩) 0 ⟨#[94]⟩ W)
    go_wp2_with fail
    refine (HJ.out _).mono ?_
    rintro e w1 ⟨rfl, rfl⟩
    go_wp2_with fail
    go_ret
    exact ⟨by rw [HE.out]; rfl, HB0.out⟩
  · go_wp2_with fail
    refine (HK.out _ HB0.out).mono ?_
    rintro e w1 ⟨rfl, hb1⟩
    have HB1 := Lib.hid (HB0.out.later hb1)
    clear hb1
    go_wp2_with fail
    go_ret
    exact ⟨rfl, HB1.out⟩
end Go.Proofs.YtalpafaflgddpaaGreatDoor

namespace Go.Proofs.YtalpafaflgddpaaGreatDoor
open Go.RowKit
set_option linter.unusedVariables false

theorem isEmpty_ne {s : ByteArray} (h : s ≠ ⟨#[]⟩) : s.toList.isEmpty = false := by
  have := ne_empty h
  cases hs : s.toList with
  | nil => rw [hs] at this; simp at this
  | cons => rfl
theorem pack_kv (cols : List ByteArray) (key val : ByteArray) : packB (rowOfKV cols key val) = if 1 < cols.length then val else ⟨#[]⟩ := by
  unfold packB rowOfKV
  split
  · rw [List.drop_succ_cons, List.drop_zero, cutS_join]
  · rfl
set_option maxRecDepth 100000 in
set_option maxHeartbeats 4000000 in
theorem unpacked_any (b0 b1 b2 b3 : Value) (b : TableD) (key val : ByteArray) (w : World) (hb : TableR w w.heap.size b0 b1 b2 b3 b) (hpos : 0 < b.cols.length) (hn5 : b.cols.length ≤ 5) (hk : key.size ≤ 1048576) (hv : val.size ≤ 64) :
    Calls Tryz.prog 93 #[.agg #[b0, b1, b2, b3], .string key, .string val] w (UnpPost (unpackB b.cols key val) w) := by
  obtain ⟨i0, hi, hz0, hz1, hz2⟩ := info_parts infoS
  have HT := Lib.hid (fun W (hW : Below w.heap.size w W) => hb.later hW)
  have HRS := Lib.hid (rowOf_small b.cols key val hk hv)
  have HKC := Lib.hid (fun W => Split_any val W (by omega))
  have HKR := Lib.hid (fun W (hW : Below w.heap.size w W) r0 (hr : RowR W W.heap.size r0 (rowOfKV b.cols key val)) => rowOk_any b0 b1 b2 b3 r0 b (rowOfKV b.cols key val) W (hb.later hW) hr (rowOf_small b.cols key val hk hv) hpos)
  have HPk := Lib.hid (fun W r0 (hr : RowR W W.heap.size r0 (rowOfKV b.cols key val)) => packed_any r0 (rowOfKV b.cols key val) W hr (rowOf_small b.cols key val hk hv) (by unfold rowOfKV; simp))
  have HPV := Lib.hid (pack_kv b.cols key val)
  have HU : Hid (unpackB b.cols key val = (if ((decide (b.cols.length = 1) && decide (val ≠ ⟨#[]⟩)) || !rowB b.cols (rowOfKV b.cols key val)) = true then none else some (rowOfKV b.cols key val))) := rfl
  have HCL := Lib.hid (cutS_small 94 val)
  have HCN := Lib.hid (cutS_ne 94 val)
  obtain ⟨rfl, rfl, ⟨A2, n2, p2, rfl, s2, k2⟩, ⟨A3, n3, p3, rfl, s3, k3⟩⟩ := hb
  have hl2 := s2.1
  rw [hl2] at HPV
  have HRV : Hid (rowOfKV b.cols key val = key :: (if 1 < n2 then cutS 94 val else [])) := by unfold Hid rowOfKV; rw [hl2]
  rw [hl2] at hpos hn5
  rw [hl2] at HU
  clear s2 s3 hl2
  generalize unpackB b.cols key val = U at *
  generalize rowB b.cols (rowOfKV b.cols key val) = rb at *
  generalize packB (rowOfKV b.cols key val) = PK at *
  generalize rowOfKV b.cols key val = ROW at *
  generalize b.name = nm at *
  generalize b.glob = gl at *
  generalize cutS 94 val = CS at *
  have HB0 := Lib.hid (below_new4 w (.cells #[.string nm, .string gl, .slice A2 n2 p2, .slice A3 n3 p3] 43) (.cells #[.slice none 0 0] 90) (.cells #[.string key] 9) (.cells #[.slice (some ⟨w.heap.size + 1 + 1, 0, none⟩) 1 1] 90))
  have HX0 := Lib.hid (heap_0of4 w (.cells #[.string nm, .string gl, .slice A2 n2 p2, .slice A3 n3 p3] 43) (.cells #[.slice none 0 0] 90) (.cells #[.string key] 9) (.cells #[.slice (some ⟨w.heap.size + 1 + 1, 0, none⟩) 1 1] 90))
  have HX1 := Lib.hid (heap_1of4 w (.cells #[.string nm, .string gl, .slice A2 n2 p2, .slice A3 n3 p3] 43) (.cells #[.slice none 0 0] 90) (.cells #[.string key] 9) (.cells #[.slice (some ⟨w.heap.size + 1 + 1, 0, none⟩) 1 1] 90))
  have HX2 := Lib.hid (heap_2of4 w (.cells #[.string nm, .string gl, .slice A2 n2 p2, .slice A3 n3 p3] 43) (.cells #[.slice none 0 0] 90) (.cells #[.string key] 9) (.cells #[.slice (some ⟨w.heap.size + 1 + 1, 0, none⟩) 1 1] 90))
  have HX3 := Lib.hid (heap_3of4 w (.cells #[.string nm, .string gl, .slice A2 n2 p2, .slice A3 n3 p3] 43) (.cells #[.slice none 0 0] 90) (.cells #[.string key] 9) (.cells #[.slice (some ⟨w.heap.size + 1 + 1, 0, none⟩) 1 1] 90))
  go_enter Tryz.func93, Tryz.ntmps93
  by_cases h1 : n2 = 1
  · subst h1
    have HRV2 : Hid (ROW = [key]) := by unfold Hid; rw [HRV.out, if_neg (by omega)]
    clear HRV
    have HSub : Hid (Own.SubO ((((w.alloc (.cells #[.string nm, .string gl, .slice A2 1 p2, .slice A3 n3 p3] 43)).alloc (.cells #[.slice none 0 0] 90)).alloc (.cells #[.string key] 9)).alloc (.cells #[.slice (some ⟨w.heap.size + 1 + 1, 0, none⟩) 1 1] 90)) w.heap.size (.slice (some ⟨w.heap.size + 1 + 1, 0, none⟩) 1 1) [key]) :=
      Own.sub_of_blk (ss := [key]) HX2.out (by omega) (by simp [maxLen])
    have HPV1 : Hid (PK = ⟨#[]⟩) := by unfold Hid; rw [HPV.out, if_neg (by omega)]
    clear HPV
    rw [HPV1.out] at HPk
    go_wp2_with fail
    refine (HKR.out _ HB0.out _ (by obtain ⟨A, c, e, hc, hs⟩ := HSub.out.strs; rw [HRV2.out]; exact ⟨A, _, c, e, hs, hc⟩)).mono ?_
    rintro e w1 ⟨rfl, hb1⟩
    have HB1 := Lib.hid (HB0.out.later hb1)
    have HY1 := Lib.hid (Blk.later HX1.out hb1 (by first | (simp; done) | (simp; omega)))
    have HY3 := Lib.hid (Blk.later HX3.out hb1 (by first | (simp; done) | (simp; omega)))
    have HS1 : Hid (Own.SubO w1 w.heap.size (.slice (some ⟨w.heap.size + 1 + 1, 0, none⟩) 1 1) [key]) := Own.own_later HSub.out hb1
    have p1 := HY1.out.cell
    have f1 := HY1.out.frozen
    have z1 := HY1.out.lt
    have p3' := HY3.out.cell
    have z3 := HY3.out.lt
    clear hb1
    cases rb
    · have HE2 : Hid (U = none) := by unfold Hid; rw [HU.out]; simp
      go_wp2_with fail
      refine bodyPost_ret (v := .tuple #[.agg #[.slice none 0 0], .int .i64 14]) (by simp [results, Tryz.results93, go_sem, p1]) rfl ?_
      rw [HE2.out]
      exact ⟨_, rfl, Own.sub_nil _ _, HB1.out.setCell (by simp) _⟩
    · go_wp2_with fail
      refine (HPk.out _ _ (by obtain ⟨A, c, e, hc, hs⟩ := HS1.out.strs; rw [HRV2.out]; exact ⟨A, _, c, e, hs, hc⟩)).mono ?_
      rintro e w2 ⟨rfl, hb2⟩
      have HB2 := Lib.hid (HB1.out.later hb2)
      have HS2 := Lib.hid (Own.own_later HS1.out hb2)
      have HZ1 := Lib.hid (HY1.out.later hb2 HY1.out.lt)
      have HZ3 := Lib.hid (HY3.out.later hb2 HY3.out.lt)
      clear p1 f1 z1 p3' z3 hb2
      have p1 := HZ1.out.cell
      have f1 := HZ1.out.frozen
      have z1 := HZ1.out.lt
      have p3' := HZ3.out.cell
      have z3 := HZ3.out.lt
      by_cases hve : val = ⟨#[]⟩
      · have HE2 : Hid (U = some [key]) := by unfold Hid; rw [HU.out, decide_eq_false (show ¬ (val ≠ ⟨#[]⟩) from fun h => h hve), HRV2.out]; simp
        subst hve
        go_wp2_with fail
        refine bodyPost_ret (v := .tuple #[.agg #[.slice (some ⟨w.heap.size + 1 + 1, 0, none⟩) 1 1], .int .i64 0]) (by simp [results, Tryz.results93, go_sem, p1]) rfl ?_
        rw [HE2.out]
        refine ⟨_, rfl, ?_, HB2.out.setCell (by simp) _⟩
        exact World.ownsRow.kept HS2.out (row := some (w.heap.size + 1)) (Own.grown_set _ _ _ _) (.inr (by simp [Value.ownBlock]))
      · have HE2 : Hid (U = none) := by unfold Hid; rw [HU.out, decide_eq_true hve]; simp
        have hbe := str_beq (fun h => hve h.symm : ¬ (⟨#[]⟩ : ByteArray) = val)
        have hbn := str_bne (fun h => hve h.symm : ¬ (⟨#[]⟩ : ByteArray) = val)
        have hbe2 := str_beq hve
        have hbn2 := str_bne hve
        have hbe3 := ne_empty hve
        have hbe4 := isEmpty_ne hve
        clear hve
        go_wp2_with fail
        refine bodyPost_ret (v := .tuple #[.agg #[.slice none 0 0], .int .i64 14]) (by simp [results, Tryz.results93, go_sem, p1]) rfl ?_
        rw [HE2.out]
        exact ⟨_, rfl, Own.sub_nil _ _, HB2.out.setCell (by simp) _⟩
  · have hgt : 1 < n2 := by omega
    have HRV2 : Hid (ROW = key :: CS) := by unfold Hid; rw [HRV.out, if_pos hgt]
    have HPV1 : Hid (PK = val) := by unfold Hid; rw [HPV.out, if_pos hgt]
    rw [HPV1.out] at HPk
    clear HPV
    have HE : Hid (U = if rb = true then some ROW else none) := by
      unfold Hid
      rw [HU.out, decide_eq_false h1]
      cases rb <;> simp
    have hg1 : (1 : Int) < (n2 : Int) := by omega
    have hne1 : ((n2 : Int) == 1) = false := by rw [beq_eq_false_iff_ne]; omega
    have hne2 : (n2 == 1) = false := by rw [beq_eq_false_iff_ne]; omega
    clear HRV HU h1
    have p3' := Blk.cell HX3.out 0
    have f3 := Blk.frozen HX3.out 0
    have z3 := Blk.lt HX3.out
    simp at p3'
    have hsz0 : w.heap.size + 1 + 1 + 1 + 1 = ((((w.alloc (.cells #[.string nm, .string gl, .slice A2 n2 p2, .slice A3 n3 p3] 43)).alloc (.cells #[.slice none 0 0] 90)).alloc (.cells #[.string key] 9)).alloc (.cells #[.slice (some ⟨w.heap.size + 1 + 1, 0, none⟩) 1 1] 90)).heap.size := by simp
    have HRA0 : Hid (Own.SubO ((((w.alloc (.cells #[.string nm, .string gl, .slice A2 n2 p2, .slice A3 n3 p3] 43)).alloc (.cells #[.slice none 0 0] 90)).alloc (.cells #[.string key] 9)).alloc (.cells #[.slice (some ⟨w.heap.size + 1 + 1, 0, none⟩) 1 1] 90)) w.heap.size (.slice (some ⟨w.heap.size + 1 + 1, 0, none⟩) 1 1) [key]) :=
      Own.sub_of_blk (ss := [key]) HX2.out (by omega) (by simp [maxLen])
    go_wp2_with fail
    go_region_law (first
      | (refine step_append_lies _ (by rfl) _ _ _ (by rfl) w.heap.size 9 i0 _ 1 16 Tryz.underlying25 hi hz0 hz1 hz2 rfl (by omega) (.slice (some ⟨w.heap.size + 1 + 1, 0, none⟩) 1 1) 1 [.string key] (by rfl) (by exact HRA.out)
            ⟨gc, 0, none⟩ CS.length cc (CS.map Value.string) (by rfl) (by simp) (by exact HCC.out) (by exact oneCells_strs CS)
            (by have := HCN.out; omega) (by unfold maxLen; have := HCL.out.1; omega) (by have := HCL.out.1; omega) (by omega) w4.heap.size rfl ?_
         intro gg cap' w5 hown5 hgrow5 hat hlt2
         have hbg := (Blk.later HX3.out HB4.out (by omega)).grown hgrow5 (by simp [Value.ownBlock])
         have p5 := hbg.cell
         have f5 := hbg.frozen
         have z5 := hbg.lt
         have HBG := Lib.hid hbg
         have HOW := Lib.hid hown5
         have HGR := Lib.hid hgrow5
         clear hbg hown5 hgrow5)
      | (go_simp
         go_at_call 132
         refine (HKC.out _).mono ?_
         rintro e w4 ⟨v', rfl, hsub, hb4⟩
         have HB4 := Lib.hid (undrew hb4)
         obtain ⟨AC, cc, rfl, hcc, hmc, hac⟩ := Own.own_slice hsub
         obtain ⟨gc, rfl, hgc, hgcb⟩ := hac HCN.out
         have HCC := Lib.hid (World.ownsRow.cells (g := gc) hsub rfl)
         clear hsub hb4
         have q2 := (Blk.later HX3.out HB4.out (by omega)).cell 0
         simp at q2
         have z6 := (Blk.later HX3.out HB4.out (by omega)).lt
         have hsz6 := HB4.out.size
         have HRA := Lib.hid (Own.own_later HRA0.out HB4.out)))
    all_goals
      have hgn : gg ≠ w.heap.size + 1 + 1 + 1 := by
        rcases hat with h | h
        · simp [Value.ownBlock] at h; omega
        · omega
      have hgn1 : gg ≠ w.heap.size + 1 := by
        rcases hat with h | h
        · simp [Value.ownBlock] at h; omega
        · omega
      have HS5 : Hid (Own.SubO (w5.setCell ⟨w.heap.size + 1 + 1 + 1, 0, none⟩ (.slice (some ⟨gg, 0, none⟩) (1 + CS.length) cap')) w.heap.size (.slice (some ⟨gg, 0, none⟩) (1 + CS.length) cap') (key :: CS)) := by
        have h := World.ownsRow.kept HOW.out (row := some (w.heap.size + 1 + 1 + 1)) (Own.grown_set w5 (w.heap.size + 1 + 1 + 1) 0 (.slice (some ⟨gg, 0, none⟩) (1 + CS.length) cap')) (.inr (by simpa [Value.ownBlock] using hgn))
        unfold Hid Own.SubO
        rw [List.length_cons, Nat.add_comm CS.length 1]
        exact h
      have HB5 := Lib.hid (((HB0.out.later HB4.out).grown HGR.out (by omega) (fun g hg => by simp [Value.ownBlock] at hg; omega)).setCell (p := ⟨w.heap.size + 1 + 1 + 1, 0, none⟩) (by simp; omega) (.slice (some ⟨gg, 0, none⟩) (1 + CS.length) cap'))
      have HZ0 := Lib.hid (((Blk.later HX0.out HB4.out (by omega)).grown HGR.out (by simp [Value.ownBlock]; omega)).far (p := ⟨w.heap.size + 1 + 1 + 1, 0, none⟩) (by simp; omega) (.slice (some ⟨gg, 0, none⟩) (1 + CS.length) cap'))
      have HZ1 := Lib.hid (((Blk.later HX1.out HB4.out (by omega)).grown HGR.out (by simp [Value.ownBlock])).far (p := ⟨w.heap.size + 1 + 1 + 1, 0, none⟩) (by simp) (.slice (some ⟨gg, 0, none⟩) (1 + CS.length) cap'))
      have HZ3 := Lib.hid (HBG.out.set_ 0 (.slice (some ⟨gg, 0, none⟩) (1 + CS.length) cap'))
      have y0 := HZ0.out.cell 0
      have y1 := HZ0.out.cell 1
      have y2 := HZ0.out.cell 2
      have y3 := HZ0.out.cell 3
      have y4 := HZ3.out.cell 0
      simp at y0 y1 y2 y3 y4
      obtain ⟨W5, hW5⟩ : ∃ W5, W5 = w5.setCell ⟨w.heap.size + 1 + 1 + 1, 0, none⟩ (.slice (some ⟨gg, 0, none⟩) (1 + CS.length) cap') := ⟨_, rfl⟩
      rw [← hW5] at HS5 HB5 HZ0 HZ1 HZ3 y0 y1 y2 y3 y4 ⊢
      clear hW5 p3' f3 z3 p5 f5 z5 q2 z6 HBG HOW HGR
      go_wp2_with fail
      refine (HKR.out _ HB5.out _ (by obtain ⟨A, c, e, hc, hs⟩ := HS5.out.strs; rw [HRV2.out]; exact ⟨A, _, c, e, hs, hc⟩)).mono ?_
      rintro e w6 ⟨rfl, hb6⟩
      have HB6 := Lib.hid (HB5.out.later hb6)
      have HY1 := Lib.hid (HZ1.out.later hb6 HZ1.out.lt)
      have HY3 := Lib.hid (HZ3.out.later hb6 HZ3.out.lt)
      have HS6 : Hid (Own.SubO w6 w.heap.size (.slice (some ⟨gg, 0, none⟩) (1 + CS.length) cap') (key :: CS)) := Own.own_later HS5.out hb6
      have p1 := HY1.out.cell
      have f1 := HY1.out.frozen
      have z1 := HY1.out.lt
      have p3' := HY3.out.cell 0
      have z3 := HY3.out.lt
      simp at p3'
      clear hb6 y0 y1 y2 y3 y4
      cases rb
      · have HE2 : Hid (U = none) := by unfold Hid; rw [HE.out]; rfl
        go_wp2_with fail
        refine bodyPost_ret (v := .tuple #[.agg #[.slice none 0 0], .int .i64 14]) (by simp [results, Tryz.results93, go_sem, p1]) rfl ?_
        rw [HE2.out]
        exact ⟨_, rfl, Own.sub_nil _ _, HB6.out.setCell (by simp) _⟩
      · go_wp2_with fail
        refine (HPk.out _ _ (by obtain ⟨A, c, e, hc, hs⟩ := HS6.out.strs; rw [HRV2.out]; exact ⟨A, _, c, e, hs, hc⟩)).mono ?_
        rintro e w7 ⟨rfl, hb7⟩
        have HB7 := Lib.hid (HB6.out.later hb7)
        have HS7 := Lib.hid (Own.own_later HS6.out hb7)
        have HV1 := Lib.hid (HY1.out.later hb7 HY1.out.lt)
        have HV3 := Lib.hid (HY3.out.later hb7 HY3.out.lt)
        clear p1 f1 z1 p3' z3 hb7
        have p1 := HV1.out.cell
        have f1 := HV1.out.frozen
        have z1 := HV1.out.lt
        have p3' := HV3.out.cell 0
        have z3 := HV3.out.lt
        simp at p3'
        have HE2 : Hid (U = some (key :: CS)) := by unfold Hid; rw [HE.out, HRV2.out]; rfl
        go_wp2_with fail
        refine bodyPost_ret (v := .tuple #[.agg #[(.slice (some ⟨gg, 0, none⟩) (1 + CS.length) cap')], .int .i64 0]) (by simp [results, Tryz.results93, go_sem, p1]) rfl ?_
        rw [HE2.out]
        refine ⟨_, rfl, ?_, HB7.out.setCell (by simp) _⟩
        exact World.ownsRow.kept HS7.out (row := some (w.heap.size + 1)) (Own.grown_set _ _ _ _) (.inr (by simpa [Value.ownBlock] using hgn1))
end Go.Proofs.YtalpafaflgddpaaGreatDoor

namespace Go.Proofs.YtalpafaflgddpaaGreatDoor
open Go.RowKit
set_option linter.unusedVariables false

set_option maxRecDepth 100000 in
set_option maxHeartbeats 4000000 in
theorem rowsOf_any (A : Option Addr) (n c : Nat) (b0 b1 b2 b3 : Value) (fs : List NodeD) (b : TableD) (w : World) (h : Nodes w w.heap.size A n fs) (hb : TableR w w.heap.size b0 b1 b2 b3 b) (hs : smallNs fs) (ht : treeB fs = true) (hpos : 0 < b.cols.length) (hn5 : b.cols.length ≤ 5) :
    Calls Tryz.prog 55 #[.agg #[.slice A n c], .agg #[b0, b1, b2, b3]] w (RowsPost (rowsT b.cols (rowsN b.glob fs)) w) := by
  obtain ⟨i0, hi, hz0, hz1, hz2⟩ := info_parts infoRowD
  have HK3 := Lib.hid (fun W (hW : Below w.heap.size w W) => rowNodes_any A n c b0 b1 b2 b3 fs b W (h.later hW) (hb.later hW) hs)
  have HKU := Lib.hid (fun W (hW : Below w.heap.size w W) key val hk hv => unpacked_any b0 b1 b2 b3 b key val W (hb.later hW) hpos hn5 hk hv)
  have HNV : Hid (∀ d ∈ rowsN b.glob fs, d.subs.length = 2 ∧ (∀ s ∈ d.subs, s.size ≤ 1048576) ∧ d.val.size ≤ 64) := fun d hd => ⟨rows_two d hd, (hs.2 d (rows_mem hd)).2.1.2, val_small ht d (rows_mem hd)⟩
  have HR : Hid (rowsT b.cols (rowsN b.glob fs) = (if 24 < (rowsN b.glob fs).length then ((4 : Int), []) else match unpAll (kvOf b.cols) (rowsN b.glob fs) with | none => ((14 : Int), []) | some rs => ((0 : Int), rs))) := rfl
  have HF : Hid (∀ d, kvOf b.cols d = unpackB b.cols (d.subs.getD 1 ByteArray.empty) d.val) := fun _ => rfl
  obtain ⟨rfl, rfl, ⟨A2, n2, p2, rfl, s2, k2⟩, ⟨A3, n3, p3, rfl, s3, k3⟩⟩ := hb
  clear s2 s3 h hs ht hpos hn5
  generalize rowsT b.cols (rowsN b.glob fs) = R at *
  generalize rowsN b.glob fs = ns at *
  generalize unpackB b.cols = up at *
  generalize kvOf b.cols = kv at *
  generalize b.name = nm at *
  generalize b.glob = gl at *
  have HB0 := Lib.hid ((Below.new w (.cells #[.slice A n c] 41)).later (Below.new _ (.cells #[.string nm, .string gl, .slice A2 n2 p2, .slice A3 n3 p3] 43)))
  have HX1 := Lib.hid (heap_two1 w (.cells #[.slice A n c] 41) (.cells #[.string nm, .string gl, .slice A2 n2 p2, .slice A3 n3 p3] 43))
  go_enter Tryz.func55, Tryz.ntmps55
  go_wp2_with fail
  refine (HK3.out _ HB0.out).mono ?_
  rintro e w3 ⟨v, ncs, rfl, ho, hc, hb3⟩
  obtain ⟨A4, cap4, rfl, _, hN4⟩ := nodes_of_row ho rfl hc hb3
  have HN4 := Lib.hid hN4
  have HB3 := Lib.hid (HB0.out.later hb3)
  have HY1 := Lib.hid (Blk.later HX1.out hb3 (by simp))
  have hw3 := HY1.out.lt
  clear ho hc hb3 hN4
  generalize hm : ns.length = m at *
  have HM := Lib.hid hm
  clear hm
  by_cases hbig : 24 < m
  · have HE : Hid (R = (4, [])) := by unfold Hid; rw [HR.out, if_pos hbig]
    go_wp2_with fail
    go_ret2
    rw [HE.out]
    exact ⟨_, rfl, ⟨[], Own.OwnL.nil _ _ _⟩, HB3.out.later (Below.new _ _)⟩
  have HR2 : Hid (R = match unpAll kv ns with | none => ((14 : Int), []) | some rs => ((0 : Int), rs)) := by unfold Hid; rw [HR.out, if_neg hbig]
  clear HR
  go_wp2_with fail
  go_loopw [7, 21] (fun v i wr => ∃ (k : Nat) (acc : List (List ByteArray)), k ≤ m ∧ i = .int .i64 k ∧ acc.length = k ∧ RowsI wr w3.heap.size v acc ∧ Below w3.heap.size w3 wr ∧ Hid (unpAll kv ns = (unpAll kv (ns.drop k)).map (acc ++ ·))) (fun _ i _ => m - (intOf i).toNat)
  case atStart => exact ⟨0, [], Nat.zero_le _, rfl, rfl, rowsI_lit w3 _ (Nat.le_refl _), Below.new _ _, by simp [Hid]⟩
  case round =>
    obtain ⟨k, acc, hk, rfl, hacc, hrows, hb, hS⟩ := hrel
    have HB := Lib.hid hb
    obtain ⟨vs, hrows⟩ := hrows
    have HRW := Lib.hid hrows
    have HBw := Lib.hid (HB3.out.later hb)
    clear hb hrows
    by_cases hlt : k < m
    · have hl : k < ns.length := by rw [HM.out]; exact hlt
      obtain ⟨bb, o, rfl, hbB, hcn⟩ := (HN4.out.later HB.out).2 (by omega)
      obtain ⟨c0, c1, c2, k0, k1, k2', hr⟩ := hcn k hlt
      clear hcn
      obtain ⟨hd2, hds, hdv⟩ := HNV.out _ (getD_memD ns k hl)
      have HN := Lib.hid (unpAll_none kv ns k hl)
      have HSo := Lib.hid (fun x => unpAll_some kv ns k hl (x := x))
      have HFd := Lib.hid (HF.out (ns.getD k default))
      clear hl
      generalize ns.getD k default = d at *
      obtain ⟨rfl, ⟨A1, n1, cap1, rfl, hs1, hcap1⟩, rfl⟩ := hr
      obtain rfl : n1 = 2 := by rw [← hs1.1]; exact hd2
      obtain ⟨sb, so, rfl, hsb, hsc⟩ := hs1.2 (by omega)
      have hck := hsc 1 (by omega)
      have HKK := Lib.hid (fun W hW => HKU.out W hW (d.subs.getD 1 ByteArray.empty) d.val (hds _ (getD_memS _ _ (by omega))) hdv)
      clear hsc hs1 hds hdv hd2
      have y0 := (HY1.out.later HB.out hw3).cell 0
      have y1 := (HY1.out.later HB.out hw3).cell 1
      have y2 := (HY1.out.later HB.out hw3).cell 2
      have y3 := (HY1.out.later HB.out hw3).cell 3
      simp at y0 y1 y2 y3
      have i1 : (k : Int) < (m : Int) := by omega
      generalize d.subs.getD 1 ByteArray.empty = key at *
      generalize d.val = val at *
      generalize up key val = o' at *
      generalize d.name = dn at *
      have HBq := Lib.hid (Below.new wr (.cells #[.string dn, .slice (some ⟨sb, so, none⟩) 2 cap1, .string val] 78))
      have HNB : Hid (Blk (wr.alloc (.cells #[.string dn, .slice (some ⟨sb, so, none⟩) 2 cap1, .string val] 78)) wr.heap.size 78 #[.string dn, .slice (some ⟨sb, so, none⟩) 2 cap1, .string val]) := heap_last rfl
      obtain ⟨WN, hWN⟩ : ∃ WN, WN = wr.alloc (.cells #[.string dn, .slice (some ⟨sb, so, none⟩) 2 cap1, .string val] 78) := ⟨_, rfl⟩
      rw [← hWN] at HBq HNB
      have HB := Lib.hid (HB.out.later HBq.out)
      have HRW := Lib.hid (HRW.out.later HBq.out)
      have HBw := Lib.hid (HBw.out.later HBq.out)
      have y0 := cell_later HBq.out y0
      have y1 := cell_later HBq.out y1
      have y2 := cell_later HBq.out y2
      have y3 := cell_later HBq.out y3
      have hck := cell_later HBq.out hck
      have n1' := HNB.out.cell 1
      have n2' := HNB.out.cell 2
      have nz := HNB.out.lt
      simp at n1' n2'
      obtain ⟨nb, hnb⟩ : ∃ nb, nb = wr.heap.size := ⟨_, rfl⟩
      go_wp2_with fail
      rw [← hWN]
      rw [← hnb] at n1' n2' nz ⊢
      clear hWN HBq HNB k0 k1 k2' hnb
      have HQ0 : Hid (Blk (WN.alloc (.cells #[.slice none 0 0] 90)) WN.heap.size 90 #[.slice none 0 0]) := heap_last rfl
      have HBn := Lib.hid (HBw.out.later (Below.new WN (.cells #[.slice none 0 0] 90)))
      have HS : Hid (∀ W', Below WN.heap.size WN W' → (W'.cell? ⟨w.heap.size + 1, 0, none⟩ = some (.string nm) ∧ W'.cell? ⟨w.heap.size + 1, 1, none⟩ = some (.string gl) ∧ W'.cell? ⟨w.heap.size + 1, 2, none⟩ = some (.slice A2 n2 p2) ∧ W'.cell? ⟨w.heap.size + 1, 3, none⟩ = some (.slice A3 n3 p3) ∧ W'.cell? ⟨nb, 1, none⟩ = some (.slice (some ⟨sb, so, none⟩) 2 cap1) ∧ W'.cell? ⟨nb, 2, none⟩ = some (.string val) ∧ W'.cell? ⟨sb, so + 1, none⟩ = some (.string key))) := fun W' hW => ⟨cell_later hW y0, cell_later hW y1, cell_later hW y2, cell_later hW y3, cell_later hW n1', cell_later hW n2', cell_later hW hck⟩
      obtain ⟨y0, y1, y2, y3, n1', n2', hck⟩ := HS.out _ (Below.refl _ _)
      go_region_held3 (fun w' => w'.cell? ⟨w.heap.size + 1, 0, none⟩ = some (.string nm) ∧ w'.cell? ⟨w.heap.size + 1, 1, none⟩ = some (.string gl) ∧ w'.cell? ⟨w.heap.size + 1, 2, none⟩ = some (.slice A2 n2 p2) ∧ w'.cell? ⟨w.heap.size + 1, 3, none⟩ = some (.slice A3 n3 p3) ∧ w'.cell? ⟨nb, 1, none⟩ = some (.slice (some ⟨sb, so, none⟩) 2 cap1) ∧ w'.cell? ⟨nb, 2, none⟩ = some (.string val) ∧ w'.cell? ⟨sb, so + 1, none⟩ = some (.string key)) (first | exact HS.out _ (Below.refl _ _).drew | exact HS.out _ (Below.new _ _).drew | exact HS.out _ HBY.out | exact HS.out _ (HBY.out.later (Below.new _ _)) | exact HS.out _ (HBY.out.setCell (Nat.le_refl _) _))
        (first
          | (go_at_call 93; refine (HKK.out _ HBw.out.drew).mono ?_; rintro e w4 ⟨v', rfl, hsub, hb4'⟩; obtain ⟨AC, cc, rfl, hcc, hmc, hac⟩ := Own.own_slice hsub; have HSUB := Lib.hid hsub; have HBX := Lib.hid (undrew hb4'); have HBY := Lib.hid HBX.out; clear hsub hb4' hac)
          | (go_at_call 93; refine (HKK.out _ HBn.out.drew).mono ?_; rintro e w4 ⟨v', rfl, hsub, hb4'⟩; obtain ⟨AC, cc, rfl, hcc, hmc, hac⟩ := Own.own_slice hsub; have HSUB := Lib.hid hsub; have HBX := Lib.hid (undrew hb4'); have HBY := Lib.hid ((Below.new WN (.cells #[.slice none 0 0] 90)).later HBX.out); have HQ := Lib.hid (Blk.later HQ0.out HBX.out (by simp)); have q0 := (Blk.cell HQ.out 0); have qf := Blk.frozen HQ.out 0; have qz := Blk.lt HQ.out; simp at q0; clear hsub hb4' hac))
      · have HBZ := Lib.hid (HBX.out.later (Below.new w4 (.cells #[(.slice AC (o'.getD []).length cc)] 90)))
        have HQ5 : Hid (Blk (w4.alloc (.cells #[(.slice AC (o'.getD []).length cc)] 90)) w4.heap.size 90 #[(.slice AC (o'.getD []).length cc)]) := heap_last rfl
        have HS5 : Hid (Own.SubO (w4.alloc (.cells #[(.slice AC (o'.getD []).length cc)] 90)) WN.heap.size (.slice AC (o'.getD []).length cc) (o'.getD [])) := Own.own_later HSUB.out (Below.new _ _)
        have HAPB : WN.heap.size ≤ WN.heap.size := Nat.le_refl _
        obtain ⟨W5, hW5⟩ : ∃ W5, W5 = w4.alloc (.cells #[(.slice AC (o'.getD []).length cc)] 90) := ⟨_, rfl⟩
        rw [← hW5] at HBZ HQ5 HS5 ⊢
        clear hW5 HBX HBY HSUB HQ0 HBn
        have HB5 := Lib.hid (HB.out.later HBZ.out)
        have HBv := Lib.hid (HB3.out.later HB5.out)
        have HRW5 := Lib.hid (HRW.out.later HBZ.out)
        have q5 := HQ5.out.cell 0
        have qz5 := HQ5.out.lt
        simp at q5
        have z35 := HB5.out.size
        have z36 := HB.out.size
        cases o' with
        | none =>
          have HE : Hid (R = (14, [])) := by unfold Hid; rw [HR2.out, hS.out, HN.out HFd.out]; rfl
          have hcu : codeU (none : Option (List ByteArray)) = 14 := rfl
          rw [hcu]
          clear q5 qz5
          go_wp2_with fail
          go_ret2
          rw [HE.out]
          exact ⟨_, rfl, ⟨[], Own.OwnL.nil _ _ _⟩, HBv.out⟩
        | some x =>
          have HE : Hid (unpAll kv ns = (unpAll kv (ns.drop (k + 1))).map ((acc ++ [x]) ++ ·)) := by
            unfold Hid
            rw [hS.out, HSo.out x HFd.out, Option.map_map]
            congr 1
            funext l
            simp
          have hcu : codeU (some x) = 0 := rfl
          rw [hcu]
          have HO := Lib.hid HRW5.out
          have HAP := Lib.hid (Own.OwnL.fresh HRW.out HS5.out HAPB)
          have hrow : Hid (∀ oo, (W5.alloc oo).ownsRow w3.heap.size 90 1 u7 acc.length (Own.flat rowK acc vs)) := fun oo => Own.own_later HO.out.row (Below.new _ _)
          have hx5 : Own.SubO W5 w3.heap.size (.slice AC x.length cc) x := Own.own_base HS5.out (by omega)
          have HX5 := Lib.hid hx5
          clear hx5
          go_wp2_with (at_builtin; refine wpList_append_own _ rfl (.tmp 39) (.tmp 41) 55 rfl w3.heap.size 90 i0 _ 1 24 Tryz.underlying55 hi hz0 hz1 hz2 rfl (by decide) _ acc.length _ rfl (hrow.out _) ⟨_, 0, none⟩ 1 1 [.slice AC x.length cc] rfl rfl ?m1 ?m2 ?m3 ?m4 ?m5 ?_)
          all_goals try (first | exact cells_atN _ #[.slice AC x.length cc] _ _ (by simp) | (simp [Value.oneCell']; done) | (unfold maxLen; omega) | omega | (simp; omega))
          intro v1 w6 hown1 hg1 _
          have HN6 : Hid (RowsI w6 w3.heap.size v1 (acc ++ [x])) := by
            have hX6 : Own.SubO (W5.alloc (.cells #[.slice AC x.length cc] 90)) w3.heap.size (.slice AC x.length cc) x := Own.own_later HX5.out (Below.new _ _)
            refine ⟨vs ++ [.slice AC x.length cc], Own.OwnL.snoc (HO.out.later (Below.new W5 (.cells #[.slice AC x.length cc] 90))) hX6 HAP.out ?_ hg1 (by decide)⟩
            show w6.ownsRow w3.heap.size 90 1 v1 (acc.length + 1) (Own.flat rowK acc vs ++ [.slice AC x.length cc])
            rw [hacc]
            exact hown1
          have HB6 := Lib.hid ((HB5.out.later (Below.new W5 (.cells #[.slice AC x.length cc] 90))).grown hg1 (by simp; omega) (fun g hg' => ((hrow.out (.cells #[] 0)).lt g hg').1))
          clear hown1 hg1
          go_wp2_with fail
          go_roundw
          case rel => exact ⟨k + 1, acc ++ [x], by omega, by go_num, by simp [hacc], HN6.out, HB6.out, HE.out⟩
          case measure => simp [intOf]; omega
      · have HBZ := Lib.hid (HBY.out.setCell (p := ⟨WN.heap.size, 0, none⟩) (Nat.le_refl _) (.slice AC (o'.getD []).length cc))
        have HQ5 : Hid (Blk (w4.setCell ⟨WN.heap.size, 0, none⟩ (.slice AC (o'.getD []).length cc)) WN.heap.size 90 #[(.slice AC (o'.getD []).length cc)]) := by unfold Hid; have h := HQ.out.set_ 0 (.slice AC (o'.getD []).length cc); simpa using h
        have HS5 : Hid (Own.SubO (w4.setCell ⟨WN.heap.size, 0, none⟩ (.slice AC (o'.getD []).length cc)) (WN.alloc (.cells #[.slice none 0 0] 90)).heap.size (.slice AC (o'.getD []).length cc) (o'.getD [])) := Own.sub_far HSUB.out (by simp)
        have HAPB : WN.heap.size ≤ (WN.alloc (.cells #[.slice none 0 0] 90)).heap.size := by simp
        obtain ⟨W5, hW5⟩ : ∃ W5, W5 = w4.setCell ⟨WN.heap.size, 0, none⟩ (.slice AC (o'.getD []).length cc) := ⟨_, rfl⟩
        rw [← hW5] at HBZ HQ5 HS5 ⊢
        clear hW5 HBX HBY HSUB HQ0 HBn q0 qf qz HQ
        have HB5 := Lib.hid (HB.out.later HBZ.out)
        have HBv := Lib.hid (HB3.out.later HB5.out)
        have HRW5 := Lib.hid (HRW.out.later HBZ.out)
        have q5 := HQ5.out.cell 0
        have qz5 := HQ5.out.lt
        simp at q5
        have z35 := HB5.out.size
        have z36 := HB.out.size
        cases o' with
        | none =>
          have HE : Hid (R = (14, [])) := by unfold Hid; rw [HR2.out, hS.out, HN.out HFd.out]; rfl
          have hcu : codeU (none : Option (List ByteArray)) = 14 := rfl
          rw [hcu]
          clear q5 qz5
          go_wp2_with fail
          go_ret2
          rw [HE.out]
          exact ⟨_, rfl, ⟨[], Own.OwnL.nil _ _ _⟩, HBv.out⟩
        | some x =>
          have HE : Hid (unpAll kv ns = (unpAll kv (ns.drop (k + 1))).map ((acc ++ [x]) ++ ·)) := by
            unfold Hid
            rw [hS.out, HSo.out x HFd.out, Option.map_map]
            congr 1
            funext l
            simp
          have hcu : codeU (some x) = 0 := rfl
          rw [hcu]
          have HO := Lib.hid HRW5.out
          have HAP := Lib.hid (Own.OwnL.fresh HRW.out HS5.out HAPB)
          have hrow : Hid (∀ oo, (W5.alloc oo).ownsRow w3.heap.size 90 1 u7 acc.length (Own.flat rowK acc vs)) := fun oo => Own.own_later HO.out.row (Below.new _ _)
          have hx5 : Own.SubO W5 w3.heap.size (.slice AC x.length cc) x := Own.own_base HS5.out (by simp; omega)
          have HX5 := Lib.hid hx5
          clear hx5
          go_wp2_with (at_builtin; refine wpList_append_own _ rfl (.tmp 39) (.tmp 41) 55 rfl w3.heap.size 90 i0 _ 1 24 Tryz.underlying55 hi hz0 hz1 hz2 rfl (by decide) _ acc.length _ rfl (hrow.out _) ⟨_, 0, none⟩ 1 1 [.slice AC x.length cc] rfl rfl ?n1 ?n2 ?n3 ?n4 ?n5 ?_)
          all_goals try (first | exact cells_atN _ #[.slice AC x.length cc] _ _ (by simp) | (simp [Value.oneCell']; done) | (unfold maxLen; omega) | omega | (simp; omega))
          intro v1 w6 hown1 hg1 _
          have HN6 : Hid (RowsI w6 w3.heap.size v1 (acc ++ [x])) := by
            have hX6 : Own.SubO (W5.alloc (.cells #[.slice AC x.length cc] 90)) w3.heap.size (.slice AC x.length cc) x := Own.own_later HX5.out (Below.new _ _)
            refine ⟨vs ++ [.slice AC x.length cc], Own.OwnL.snoc (HO.out.later (Below.new W5 (.cells #[.slice AC x.length cc] 90))) hX6 HAP.out ?_ hg1 (by decide)⟩
            show w6.ownsRow w3.heap.size 90 1 v1 (acc.length + 1) (Own.flat rowK acc vs ++ [.slice AC x.length cc])
            rw [hacc]
            exact hown1
          have HB6 := Lib.hid ((HB5.out.later (Below.new W5 (.cells #[.slice AC x.length cc] 90))).grown hg1 (by simp; omega) (fun g hg' => ((hrow.out (.cells #[] 0)).lt g hg').1))
          clear hown1 hg1
          go_wp2_with fail
          go_roundw
          case rel => exact ⟨k + 1, acc ++ [x], by omega, by go_num, by simp [hacc], HN6.out, HB6.out, HE.out⟩
          case measure => simp [intOf]; omega
    · have HE : Hid (R = (0, acc)) := by
        unfold Hid
        rw [HR2.out, hS.out, List.drop_of_length_le (by rw [HM.out]; omega)]
        simp [unpAll]
      go_wp2_with fail
      go_ret2
      rw [HE.out]
      exact ⟨_, rfl, ⟨vs, HRW.out.base HB3.out.size⟩, HBw.out⟩
end Go.Proofs.YtalpafaflgddpaaGreatDoor

namespace Go.Proofs.YtalpafaflgddpaaGreatDoor
open Go.RowKit
set_option linter.unusedVariables false

theorem order_snoc (cols : List ByteArray) (d : QueryD) (st : List ByteArray → Bool) (rs : List (List ByteArray)) (k : Nat) (h : k < rs.length) :
    sortedB cols d ((rs.take (k + 1)).filter st) = if st (rs.getD k default) = true then (if d.order = ⟨#[]⟩ then sortedB cols d ((rs.take k).filter st) ++ [rs.getD k default] else Stab.mrg (ltK d.desc (placeI cols d.order).toNat) (sortedB cols d ((rs.take k).filter st)) [rs.getD k default]) else sortedB cols d ((rs.take k).filter st) := by
  rw [filter_snoc st rs k h]
  split
  · unfold sortedB
    split
    · rfl
    · rw [Stab.srt_snoc]
  · rfl
theorem order_mem {cols : List ByteArray} {d : QueryD} {rs : List (List ByteArray)} {x : List ByteArray} (h : x ∈ sortedB cols d rs) : x ∈ rs := by
  unfold sortedB at h
  split at h
  · exact h
  · exact (Stab.srt_mem _ _).1 h
theorem order_len (cols : List ByteArray) (d : QueryD) (rs : List (List ByteArray)) : (sortedB cols d rs).length = rs.length := by
  unfold sortedB
  split
  · rfl
  · exact Stab.srt_len _
theorem cut_len (limit : Int) (rs : List (List ByteArray)) : (cutB limit rs).length = if limit = 0 then rs.length else min rs.length limit.toNat := by
  unfold cutB
  split
  · rfl
  · rw [List.length_take, Nat.min_comm]
theorem cut_getD (limit : Int) (rs : List (List ByteArray)) (k : Nat) (h : k < (cutB limit rs).length) : (cutB limit rs).getD k default = rs.getD k default := by
  unfold cutB at h ⊢
  split
  · rfl
  · rename_i hl
    rw [if_neg hl, List.length_take] at h
    rw [List.getD_eq_getElem?_getD, List.getElem?_take, if_pos (by omega), ← List.getD_eq_getElem?_getD]
theorem map_snoc {α β : Type} [Inhabited α] (f : α → β) (l : List α) (k : Nat) (h : k < l.length) : (l.take (k + 1)).map f = (l.take k).map f ++ [f (l.getD k default)] := by
  rw [List.take_succ_eq_append_getElem h, List.map_append, List.getD_eq_getElem?_getD, List.getElem?_eq_getElem h]
  rfl
theorem map_snocS (f : ByteArray → ByteArray) (l : List ByteArray) (k : Nat) (h : k < l.length) : (l.take (k + 1)).map f = (l.take k).map f ++ [f (l.getD k ByteArray.empty)] := by
  rw [List.take_succ_eq_append_getElem h, List.map_append, List.getD_eq_getElem?_getD, List.getElem?_eq_getElem h]
  rfl
theorem place_of_mem {l : List ByteArray} {x : ByteArray} (h : x ∈ l) : 0 ≤ placeI l x := by
  have := placeI_in l x
  rw [List.any_eq_true.2 ⟨x, h, by simp⟩] at this
  exact of_decide_eq_true this
def MadePost (rs : List (List ByteArray)) (w : World) (e : Ending) (w' : World) : Prop := ∃ v, e = .returned v ∧ RowsI w' w.heap.size v rs ∧ Below w.heap.size w w'

end Go.Proofs.YtalpafaflgddpaaGreatDoor

namespace Go.Proofs.YtalpafaflgddpaaGreatDoor
open Go.RowKit
set_option linter.unusedVariables false

theorem RowsRd.take {w : World} {B n k : Nat} {A : Option Addr} {rs : List (List ByteArray)} (h : RowsRd w B A n rs) (hk : k ≤ n) : RowsRd w B A k (rs.take k) := by
  refine ⟨by rw [List.length_take, h.1]; omega, fun hp => ?_⟩
  obtain ⟨b, o, e, hb, hc⟩ := h.2 (by omega)
  refine ⟨b, o, e, hb, fun j hj => ?_⟩
  obtain ⟨v, h1, h2⟩ := hc j (by omega)
  refine ⟨v, h1, ?_⟩
  rw [List.getD_eq_getElem?_getD, List.getElem?_take, if_pos hj, ← List.getD_eq_getElem?_getD]
  exact h2
theorem filter_nn (st : List ByteArray → Bool) (rs : List (List ByteArray)) : (rs.filter fun r => !(!st r)) = rs.filter st := by
  congr 1
  funext r
  simp
set_option maxRecDepth 100000 in
set_option maxHeartbeats 1000000 in
theorem insertion_zero (A : Option Addr) (cap : Nat) (fv : Value) (w : World) :
    Calls Tryz.prog 160 #[.slice A 0 cap, .int .i64 0, .int .i64 0, fv] w fun e w' => e = .returned (.tuple #[]) ∧ w = w' := by
  go_enter Tryz.func160, Tryz.ntmps160
  go_wp2_with fail
  refine wp_loop_rounds 1 ?_
  rw [rounds_succ]
  go_wp2_with fail
  go_end0
  exact ⟨rfl, rfl⟩
set_option maxRecDepth 100000 in
set_option maxHeartbeats 1000000 in
theorem stable_zero (A : Option Addr) (cap : Nat) (fv : Value) (w : World) :
    Calls Tryz.prog 138 #[.slice A 0 cap, .int .i64 0, fv] w fun e w' => e = .returned (.tuple #[]) ∧ w = w' := by
  have HK := Lib.hid (fun W => insertion_zero A cap fv W)
  go_enter Tryz.func138, Tryz.ntmps138
  go_wp2_with fail
  refine wp_loop_rounds 1 ?_
  rw [rounds_succ]
  go_wp2_with fail
  refine (HK.out _).mono ?_
  rintro e w1 ⟨rfl, rfl⟩
  go_wp2_with fail
  refine wp_loop_rounds 1 ?_
  rw [rounds_succ]
  go_wp2_with fail
  go_end0
  exact ⟨rfl, rfl⟩
set_option maxRecDepth 100000 in
set_option maxHeartbeats 1000000 in
theorem SortStable_zero (A : Option Addr) (cap : Nat) (fv : Value) (w : World) :
    Calls Tryz.prog 101 #[.slice A 0 cap, fv] w fun e w' => e = .returned (.tuple #[]) ∧ w = w' := by
  have HK := Lib.hid (fun W => stable_zero A cap fv W)
  go_enter Tryz.func101, Tryz.ntmps101
  go_wp2_with fail
  refine (HK.out _).mono ?_
  rintro e w1 ⟨rfl, rfl⟩
  go_wp2_with fail
  go_end0
  exact ⟨rfl, rfl⟩

/-- A row of a table: small, and as long as the table's columns. -/
def RowGood (cols r : List ByteArray) : Prop := smallR r ∧ r.length = cols.length
set_option maxRecDepth 100000 in
set_option maxHeartbeats 8000000 in
theorem result_any (A : Option Addr) (n c : Nat) (b0 b1 b2 b3 c0 c1 c2 c3 c4 c5 : Value) (b : TableD) (d : QueryD) (rs : List (List ByteArray)) (w : World) (htab : tabT w) (hb : TableR w w.heap.size b0 b1 b2 b3 b) (h : QueryR w w.heap.size c0 c1 c2 c3 c4 c5 d) (hr : RowsRd w w.heap.size A n rs) (hbs : b.small) (hs : d.small) (hrs : ∀ r ∈ rs, smallR r) (hn : n ≤ 24)
    (hfit : ∀ c ∈ d.wher, 0 ≤ placeI b.cols c.col) (hord : d.order ≠ ⟨#[]⟩ → 0 ≤ placeI b.cols d.order) (hcol : ∀ c ∈ d.cols, 0 ≤ placeI b.cols c) (hlim : 0 ≤ d.limit) (hlim2 : d.limit ≤ 24) (hlen : ∀ r ∈ rs, r.length = b.cols.length) :
    Calls Tryz.prog 56 #[.agg #[b0, b1, b2, b3], .agg #[c0, c1, c2, c3, c4, c5], .slice A n c] w (MadePost (madeB b d rs) w) := by
  obtain ⟨i0, hi, hz0, hz1, hz2⟩ := info_parts infoRowD
  obtain ⟨j0, hj, hk0, hk1, hk2⟩ := info_parts infoS
  have HTT := Lib.hid hb
  have HQQ := Lib.hid h
  have HRR := Lib.hid hr
  have HLen := Lib.hid hr.1
  have HTAB := Lib.hid htab
  have HKs := Lib.hid (fun W (hW : Below w.heap.size w W) => selected_any b0 b1 b2 b3 c0 c1 c2 c3 c4 c5 b d W (hb.later hW) (h.later hW))
  have HKcell := Lib.hid (fun W (hW : Below w.heap.size w W) r0 row col j (hrr : RowR W W.heap.size r0 row) (hp : placeI b.cols col = (j : Nat)) (hj : j < row.length) => cell_any b0 b1 b2 b3 r0 b row col j W (hb.later hW) hrr hbs hp hj)
  have HMD : Hid (madeB b d rs = (cutB d.limit (sortedB b.cols d (rs.filter (staysB b.cols d.wher)))).map (projB b.cols (selB b d))) := rfl
  have HRG := Lib.hid (fun r (hm : r ∈ rs) => (⟨hrs r hm, hlen r hm⟩ : RowGood b.cols r))
  have HR1 := Lib.hid (fun bk qk W (hW : Below w.heap.size w W) (hkb : Blk W bk 43 #[b0, b1, b2, b3]) (hkq : Blk W qk 47 #[c0, c1, c2, c3, c4, c5]) r0 row (hm : row ∈ rs) (hrr : RowR W W.heap.size r0 row) => result1_any bk qk b0 b1 b2 b3 c0 c1 c2 c3 c4 c5 r0 b d row W (tab_later htab hW) hkb hkq (hb.later hW) (h.later hW) hrr hbs hs (hrs row hm) hfit (hlen row hm))
  have HR2 := Lib.hid (fun bk qk W (hW : Below w.heap.size w W) (hkb : Blk W bk 43 #[b0, b1, b2, b3]) (hkq : Blk W qk 47 #[c0, c1, c2, c3, c4, c5]) x0 y0 x y (hx : RowGood b.cols x) (hy : RowGood b.cols y) (hxr : RowR W W.heap.size x0 x) (hyr : RowR W W.heap.size y0 y) (ho : d.order ≠ ⟨#[]⟩) => result2_any bk qk b0 b1 b2 b3 c0 c1 c2 c3 c4 c5 x0 y0 b d x y (placeI b.cols d.order).toNat W (tab_later htab hW) hkb hkq (hb.later hW) (h.later hW) hxr hyr hbs hx.1 hy.1 (by have := hord ho; omega) (by rw [hx.2]; have h1 := hord ho; have h2 := (placeI_bd b.cols d.order).2; omega) (by rw [hy.2]; have h1 := hord ho; have h2 := (placeI_bd b.cols d.order).2; omega))
  obtain ⟨rfl, rfl, ⟨A2, n2, p2, rfl, s2, k2⟩, ⟨A3, n3, p3, rfl, s3, k3⟩⟩ := hb
  obtain ⟨rfl, ⟨B1, m1, q1, rfl, t1, l1⟩, ⟨B2, m2, q2, rfl, t2, l2⟩, rfl, rfl, rfl⟩ := h
  -- the columns that are selected
  have HSV : ∃ (SA : Option Addr) (sn sp : Nat), (if d.cols.length = 0 then Value.slice A2 n2 p2 else .slice B1 m1 q1) = .slice SA sn sp ∧ Strs w w.heap.size SA sn (selB b d) ∧ (∀ t, t < (selB b d).length → ∃ j, placeI b.cols ((selB b d).getD t ByteArray.empty) = (j : Nat) ∧ j < n2) ∧ sn ≤ 1048576 := by
    by_cases h0 : d.cols.length = 0
    · have hsb : selB b d = b.cols := by unfold selB; rw [if_pos h0]
      refine ⟨A2, n2, p2, by rw [if_pos h0], by rw [hsb]; exact s2, fun t ht => ?_, by rw [← s2.1]; exact hbs.2.2.1.1⟩
      rw [hsb] at ht ⊢
      have h1 := place_of_mem (getD_memS b.cols t ht)
      have h2 := (placeI_bd b.cols (b.cols.getD t ByteArray.empty)).2
      rw [s2.1] at h2
      exact ⟨(placeI b.cols (b.cols.getD t ByteArray.empty)).toNat, by omega, by omega⟩
    · have hsb : selB b d = d.cols := by unfold selB; rw [if_neg h0]
      refine ⟨B1, m1, q1, by rw [if_neg h0], by rw [hsb]; exact t1, fun t ht => ?_, by rw [← t1.1]; exact hs.2.1.1⟩
      rw [hsb] at ht ⊢
      have h1 := hcol _ (getD_memS d.cols t ht)
      have h2 := (placeI_bd b.cols (d.cols.getD t ByteArray.empty)).2
      rw [s2.1] at h2
      exact ⟨(placeI b.cols (d.cols.getD t ByteArray.empty)).toNat, by omega, by omega⟩
  obtain ⟨SA, sn, sp, hsv, hsel, hpk, hsnb⟩ := HSV
  rw [hsv] at HKs
  have HSEL := Lib.hid hsel
  have HPK := Lib.hid hpk
  have HL2 := Lib.hid s2.1
  have HB0 := Lib.hid ((Below.new w (.cells #[.string b.name, .string b.glob, .slice A2 n2 p2, .slice A3 n3 p3] 43)).later (Below.new _ (.cells #[.string d.table, .slice B1 m1 q1, .slice B2 m2 q2, .string d.order, .bool d.desc, .int .i64 d.limit] 47)))
  obtain ⟨w0, hW0⟩ : ∃ w0, w0 = (w.alloc (.cells #[.string b.name, .string b.glob, .slice A2 n2 p2, .slice A3 n3 p3] 43)).alloc (.cells #[.string d.table, .slice B1 m1 q1, .slice B2 m2 q2, .string d.order, .bool d.desc, .int .i64 d.limit] 47) := ⟨_, rfl⟩
  have HX0 : Hid (Blk w0 w.heap.size 43 #[.string b.name, .string b.glob, .slice A2 n2 p2, .slice A3 n3 p3]) := by subst hW0; exact heap_two0 _ _ _
  have HX1 : Hid (Blk w0 (w.heap.size + 1) 47 #[.string d.table, .slice B1 m1 q1, .slice B2 m2 q2, .string d.order, .bool d.desc, .int .i64 d.limit]) := by subst hW0; exact heap_two1 _ _ _
  have HBB : Hid (Below w.heap.size w w0) := by subst hW0; exact HB0.out
  have Hz0 : Hid (w0.heap.size = w.heap.size + 1 + 1) := by subst hW0; simp [Hid]
  have HRd : Hid (∀ W', Below w0.heap.size w0 W' → (W'.cell? ⟨w.heap.size, 0, none⟩ = some (.string b.name) ∧ W'.cell? ⟨w.heap.size, 1, none⟩ = some (.string b.glob) ∧ W'.cell? ⟨w.heap.size, 2, none⟩ = some (.slice A2 n2 p2) ∧ W'.cell? ⟨w.heap.size, 3, none⟩ = some (.slice A3 n3 p3) ∧ W'.cell? ⟨w.heap.size + 1, 0, none⟩ = some (.string d.table) ∧ W'.cell? ⟨w.heap.size + 1, 1, none⟩ = some (.slice B1 m1 q1) ∧ W'.cell? ⟨w.heap.size + 1, 2, none⟩ = some (.slice B2 m2 q2) ∧ W'.cell? ⟨w.heap.size + 1, 3, none⟩ = some (.string d.order) ∧ W'.cell? ⟨w.heap.size + 1, 4, none⟩ = some (.bool d.desc) ∧ W'.cell? ⟨w.heap.size + 1, 5, none⟩ = some (.int .i64 d.limit))) := fun W' hW => by
    have e0 := HX0.out.later hW HX0.out.lt
    have e1 := HX1.out.later hW HX1.out.lt
    exact ⟨e0.at 0 rfl, e0.at 1 rfl, e0.at 2 rfl, e0.at 3 rfl, e1.at 0 rfl, e1.at 1 rfl, e1.at 2 rfl, e1.at 3 rfl, e1.at 4 rfl, e1.at 5 rfl⟩
  have hzb : w.heap.size < w0.heap.size := by rw [Hz0.out]; omega
  have hzc : w.heap.size + 1 < w0.heap.size := by rw [Hz0.out]; omega
  have HRR0 := Lib.hid (HRR.out.later HBB.out)
  have HKC := Lib.hid (CloneR_any w0 A n c rs w0 HRR0.out (Below.refl _ _) (by omega))
  have HPred : Hid (PredRow 96 #[.pointer (some ⟨w.heap.size + 1, 0, none⟩), .pointer (some ⟨w.heap.size, 0, none⟩)] (fun r => !staysB b.cols d.wher r) rs w0) := fun r hm r0 W hW hrr => HR1.out w.heap.size (w.heap.size + 1) W (HBB.out.later hW) (HX0.out.later hW HX0.out.lt) (HX1.out.later hW HX1.out.lt) r0 r hm hrr
  have HKD := Lib.hid (fun v cs W (ho : W.ownsRow w0.heap.size 90 1 v rs.length cs) (hc : CellsG 1 (rowC w0 w0.heap.size) rs cs) (hW : Below w0.heap.size w0 W) => DeleteFuncR_any 96 #[.pointer (some ⟨w.heap.size + 1, 0, none⟩), .pointer (some ⟨w.heap.size, 0, none⟩)] (fun r => !staysB b.cols d.wher r) v rs cs w0 W (rowC w0 w0.heap.size) (fun _ _ h => h) ho hc hW (by rw [HLen.out]; omega) (enters_of Tryz.func96 (by kernel_rfl) rfl) HPred.out)
  have HNN := Lib.hid (filter_nn (staysB b.cols d.wher) rs)
  rw [HNN.out] at HKD
  have HFl := Lib.hid (List.length_filter_le (staysB b.cols d.wher) rs)
  have HFm := Lib.hid (fun x (hx : x ∈ rs.filter (staysB b.cols d.wher)) => (List.mem_filter.1 hx).1)
  have HLIM := Lib.hid hlim
  have HLIM2 := Lib.hid hlim2
  have HCmp : Hid (d.order ≠ ⟨#[]⟩ → CmpOk 102 #[.pointer (some ⟨w.heap.size, 0, none⟩), .pointer (some ⟨w.heap.size + 1, 0, none⟩)] (cmpK d.desc (placeI b.cols d.order).toNat) (RowGood b.cols) w0) := fun ho x y x0 y0 W hW hx hy hxr hyr => HR2.out w.heap.size (w.heap.size + 1) W (HBB.out.later hW) (HX0.out.later hW HX0.out.lt) (HX1.out.later hW HX1.out.lt) x0 y0 x y hx hy hxr hyr ho
  have HSD : Hid (sortedB b.cols d (rs.filter (staysB b.cols d.wher)) = if d.order = ⟨#[]⟩ then rs.filter (staysB b.cols d.wher) else Stab.srt (ltK d.desc (placeI b.cols d.order).toNat) (rs.filter (staysB b.cols d.wher))) := rfl
  clear s2 s3 t1 t2 hbs hs hrs hfit hord hcol hlen hr hlim hlim2 htab hsv hsel hpk HR1 HR2 HNN HPred HTT HQQ
  generalize rs.filter (staysB b.cols d.wher) = L0 at *
  obtain ⟨LS, hLS⟩ : ∃ LS, LS = sortedB b.cols d L0 := ⟨_, rfl⟩
  have HLS := Lib.hid hLS
  rw [← hLS] at HMD HSD
  clear hLS
  go_enter Tryz.func56, Tryz.ntmps56
  go_wp2_with fail
  rw [← hW0]
  clear hW0 HB0
  refine HKC.out.mono ?_
  rintro e w1 ⟨v1, cs1, rfl, ho1, hc1, hb1⟩
  have HK2 := Lib.hid (HKD.out v1 cs1 w1 ho1 hc1 hb1)
  clear ho1 hc1 hb1 HKC HKD
  go_wp2_with fail
  refine HK2.out.mono ?_
  rintro e w2 ⟨v2, cs2, rfl, ho2, hc2, hb2⟩
  have HO2 := Lib.hid ho2
  have HC2 := Lib.hid hc2
  have HB2 := Lib.hid hb2
  clear ho2 hc2 hb2 HK2
  obtain ⟨x0, x1, x2, x3, x4, x5, x6, x7, x8, x9⟩ := HRd.out _ HB2.out
  go_upto_if 19 with fail
  obtain ⟨A1, cap1, e2, hcap1, hrd2⟩ := rows_of_row HO2.out rfl HC2.out HB2.out
  subst e2
  have HRD2 := Lib.hid hrd2
  have hL24 : L0.length ≤ 24 := by have h1 := HFl.out; rw [HLen.out] at h1; omega
  clear hrd2
  obtain ⟨bo, hbo⟩ : ∃ bo : Bool, bo = !d.order.toList.isEmpty := ⟨_, rfl⟩
  rw [← hbo]
  go_cut [2] (fun v wx => ∃ (A1 : Option Addr) (m cap1 : Nat), v = .slice A1 m cap1 ∧ m ≤ cap1 ∧ m ≤ 24 ∧ Hid (RowsRd wx wx.heap.size A1 m LS) ∧ Hid (Below w0.heap.size w0 wx))
  case first => as_aux_lemma =>
    by_cases ho : d.order = ⟨#[]⟩
    · have hoi : d.order.toList.isEmpty = true := by rw [ho, toList_data]; rfl
      have hoi2 : bo = false := by rw [hbo, hoi]; rfl
      clear hbo hoi
      subst hoi2
      have HE : Hid (LS = L0) := by unfold Hid; rw [HSD.out, if_pos ho]
      clear ho
      go_wp2_with fail
      go_meet
      case rel => exact ⟨A1, L0.length, cap1, rfl, hcap1, hL24, by rw [HE.out]; exact HRD2.out, HB2.out⟩
    · have HE : Hid (LS = Stab.srt (ltK d.desc (placeI b.cols d.order).toNat) L0) := by unfold Hid; rw [HSD.out, if_neg ho]
      have HCm := Lib.hid (HCmp.out ho)
      have hoe := str_beq ho
      have hon := str_bne ho
      have hoe3 := ne_empty ho
      have hoe4 := isEmpty_ne ho
      have hoe5 : bo = true := by rw [hbo, hoe4]; rfl
      clear hbo
      subst hoe5
      clear ho
      rcases Nat.eq_zero_or_pos L0.length with hz | hz
      · have HLz := Lib.hid hz
        have HZ := Lib.hid (SortStable_zero A1 cap1 (.func (.func 102) #[] #[.pointer (some ⟨w.heap.size, 0, none⟩), .pointer (some ⟨w.heap.size + 1, 0, none⟩)]) w2)
        have HE0 : Hid (LS = []) := by unfold Hid; rw [HE.out]; exact List.eq_nil_of_length_eq_zero (by rw [Stab.srt_len]; exact hz)
        rw [hz]
        clear hz
        go_wp2_with fail
        refine HZ.out.mono ?_
        rintro e w3 ⟨rfl, rfl⟩
        go_wp2_with fail
        go_meet
        case rel => exact ⟨A1, 0, cap1, rfl, Nat.zero_le _, by omega, by rw [HE0.out]; exact ⟨rfl, fun h => absurd h (by omega)⟩, HB2.out⟩
      · obtain ⟨_, _, e3, _, _, hA⟩ := Own.own_slice HO2.out
        injection e3 with e3 _ e4
        subst e3 e4
        obtain ⟨g, rfl, _, _⟩ := hA hz
        have HK := Lib.hid (SortStable_any 102 #[.pointer (some ⟨w.heap.size, 0, none⟩), .pointer (some ⟨w.heap.size + 1, 0, none⟩)] (cmpK d.desc (placeI b.cols d.order).toNat) (ltK d.desc (placeI b.cols d.order).toNat) (RowGood b.cols) w0 (ltK_weak _ _) (cmpK_lt _ _) HCm.out (enters_of Tryz.func102 (by kernel_rfl) rfl) g L0.length cap1 hL24 (itemsOf L0 cs2) w2 (items_start HO2.out HC2.out (fun r hr => HRG.out r (HFm.out r hr)) HB2.out))
        have HIS := Lib.hid (items_snd L0 cs2 (n := L0.length) rfl)
        clear hA hz
        go_wp2_with fail
        refine HK.out.mono ?_
        rintro e w3 ⟨rfl, d3, hS3, hE3⟩
        obtain ⟨hown3, hcs3⟩ := items_end hS3
        have hsn : (Stab.seg d3 0 L0.length).map Prod.snd = LS := by rw [hE3, srt_map, HIS.out, HE.out]
        rw [hsn] at hcs3
        have hl3 : LS.length = L0.length := by rw [HE.out, Stab.srt_len]
        obtain ⟨_, _, e5, hc5, hrd5⟩ := rows_of_row hown3 hl3 hcs3 hS3.below
        injection e5 with e5 _ e6
        subst e5 e6
        have HR5 := Lib.hid hrd5
        have HB5 := Lib.hid hS3.below
        clear hS3 hE3 hown3 hcs3 hsn hl3 hrd5
        go_wp2_with fail
        go_meet
        case rel => exact ⟨_, L0.length, cap1, rfl, hcap1, hL24, HR5.out, HB5.out⟩
  case rest => as_aux_lemma =>
  clear hbo HRD2 HO2 HC2 hcap1 HB2 HSD HCmp x0 x1 x2 x3 x4 x5 x6 x7 x8 x9 hL24
  obtain ⟨A1, m, cap1, rfl, hmc, hm24, HRD, HB3⟩ := hcut
  obtain ⟨W3, rfl⟩ : ∃ W3, W3 = wc := ⟨wc, rfl⟩
  obtain ⟨x0, x1, x2, x3, x4, x5, x6, x7, x8, x9⟩ := HRd.out _ HB3.out
  obtain ⟨K, hK⟩ : ∃ K, K = (cutB d.limit LS).length := ⟨_, rfl⟩
  have HKd : Hid (K = if d.limit = 0 then m else min m d.limit.toNat) := by unfold Hid; rw [hK, cut_len d.limit LS, HRD.out.1]
  have HKK := Lib.hid hK
  have HCut : Hid (RowsRd W3 W3.heap.size A1 K (cutB d.limit LS)) := by
    have h1 := HKd.out
    unfold cutB
    by_cases h0 : d.limit = 0
    · rw [if_pos h0] at h1 ⊢
      rw [h1]; exact HRD.out
    · rw [if_neg h0] at h1 ⊢
      have h2 := HRD.out.take (k := K) (by omega)
      have h3 : LS.take K = LS.take d.limit.toNat := by
        rw [h1]
        rcases Nat.le_total m d.limit.toNat with h | h
        · rw [Nat.min_eq_left h, List.take_of_length_le (by rw [HRD.out.1]; exact Nat.le_refl _), List.take_of_length_le (by rw [HRD.out.1]; exact h)]
        · rw [Nat.min_eq_right h]
      rw [h3] at h2
      exact h2
  have hK24 : K ≤ m := by have h := HKd.out; split at h <;> omega
  clear hK
  go_upto_if 25 with fail
  go_cut [2] (fun v wx => v = .slice A1 K cap1 ∧ wx = W3)
  case first => as_aux_lemma =>
    by_cases h0 : d.limit = 0
    · have HE : Hid (K = m) := by have h := HKd.out; rw [if_pos h0] at h; exact h
      rw [h0] at x9
      go_wp2_with fail
      go_meet
      case rel => exact ⟨by rw [HE.out], rfl⟩
    · have i1 := int_beq h0
      have i2 : (d.limit != 0) = true := by rw [bne, i1]; rfl
      have i3 : min (m : Int) d.limit = (K : Int) := by
        have h := HKd.out
        have h2 := HLIM.out
        rw [if_neg h0] at h
        omega
      have i4 : (K : Int) ≤ (m : Int) := by omega
      have i5 : (K : Int) ≤ (cap1 : Int) := by omega
      go_wp2_with fail
      go_meet
      case rel => exact ⟨rfl, rfl⟩
  case rest => as_aux_lemma =>
  obtain ⟨rfl, rfl⟩ := hcut
  obtain ⟨W3, rfl⟩ : ∃ W3, W3 = wc := ⟨wc, rfl⟩
  obtain ⟨CL, hCL⟩ : ∃ CL, CL = cutB d.limit LS := ⟨_, rfl⟩
  rw [← hCL] at HCut HKK HMD
  have HCLg : Hid (∀ q, q < K → (CL.getD q default).length = n2) := fun q hq => by
    have h1 := getD_memD CL q (by rw [HCut.out.1]; exact hq)
    have h2 : CL.getD q default ∈ LS := by
      rw [hCL] at h1
      unfold cutB at h1
      split at h1
      · rw [hCL]; unfold cutB; rw [if_pos ‹_›]; exact h1
      · rw [hCL]; unfold cutB; rw [if_neg ‹_›]; exact List.mem_of_mem_take h1
    have h3 : CL.getD q default ∈ L0 := by rw [HLS.out] at h2; exact order_mem h2
    have h4 := (HRG.out _ (HFm.out _ h3)).2
    rw [h4]; exact HL2.out
  have hKn : K ≤ 24 := by omega
  clear hCL HKd HRD
  generalize selB b d = SEL at *
  clear x0 x1 x2 x3 x4 x5 x6 x7 x8 x9
  have HB3w := Lib.hid (HBB.out.later HB3.out)
  go_wp2_with fail
  go_loopw [7, 36] (fun v i wr2 => ∃ (q : Nat) (acc : List (List ByteArray)), q ≤ K ∧ i = .int .i64 q ∧ Hid (acc = (CL.take q).map (projB b.cols SEL)) ∧ Hid (acc.length = q) ∧ Hid (RowsI wr2 W3.heap.size v acc) ∧ Hid (Below W3.heap.size W3 wr2)) (fun _ i _ => K - (intOf i).toNat)
  case atStart => exact ⟨0, [], Nat.zero_le _, rfl, by simp [Hid], rfl, rowsI_lit W3 _ (Nat.le_refl _), Below.new _ _⟩
  case round =>
    obtain ⟨q, acc, hq, rfl, hacc, haccl, hRI, HB4⟩ := hrel
    obtain ⟨W4, rfl⟩ : ∃ W4, W4 = wr := ⟨wr, rfl⟩
    by_cases hqK : q < K
    · obtain ⟨lb, lo, rfl, hlb, hlc⟩ := (HCut.out.later HB4.out).2 (by omega)
      obtain ⟨lv, hlv, hlr⟩ := hlc q hqK
      have hrl := HCLg.out q hqK
      have HPr := Lib.hid (map_snoc (projB b.cols SEL) CL q (by rw [HCut.out.1]; exact hqK))
      have HLR := Lib.hid hlr
      obtain ⟨S0, ln, lc, rfl, hlS, _⟩ := hlr
      have hjb : Hid (∀ j, j < n2 → j < (CL.getD q default).length) := fun j hj => by rw [hrl]; exact hj
      clear hlc hlS hrl
      generalize CL.getD q default = lrow at *
      have HWa := Lib.hid (Below.new W4 (.cells #[.slice S0 ln lc] 90))
      have HWb := Lib.hid (HWa.out.later (Below.new _ (.cells #[] 9)))
      obtain ⟨W5, hW5⟩ : ∃ W5, W5 = (W4.alloc (.cells #[.slice S0 ln lc] 90)).alloc (.cells #[] 9) := ⟨_, rfl⟩
      have HXr : Hid (Blk W5 W4.heap.size 90 #[.slice S0 ln lc]) := by subst hW5; exact heap_two0 _ _ _
      rw [← hW5] at HWb
      have HO5 : Hid (W5.ownsRow W4.heap.size 9 1 (.slice (some ⟨W4.heap.size + 1, 0, none⟩) 0 0) 0 []) := by
        subst hW5
        have h := World.ownsRow_lit (base := W4.heap.size) (e := 9) (size := 1) (W4.alloc (.cells #[.slice S0 ln lc] 90)) #[] 0 (by simp) (by omega) rfl
        unfold Hid
        simpa using h
      have HB5 := Lib.hid (HB3.out.later (HB4.out.later HWb.out))
      obtain ⟨y0, y1, y2, y3, y4, y5, y6, y7, y8, y9⟩ := HRd.out _ HB5.out
      rw [hW5] at y0 y1 y2 y3 y4 y5 y6 y7 y8 y9
      have HKsel := Lib.hid (HKs.out W5 (HBB.out.later HB5.out))
      have hqKz : (q : Int) < (K : Int) := by omega
      clear HWa
      go_wp2_with fail
      rw [← hW5]
      clear hW5
      refine HKsel.out.mono ?_
      rintro e w6 ⟨rfl, hb6⟩
      have HB6 := Lib.hid (HWb.out.later hb6)
      have HO6 := Lib.hid (Own.own_later HO5.out hb6)
      have HXr6 := Lib.hid (HXr.out.later hb6 HXr.out.lt)
      have HLR6 := Lib.hid (HLR.out.later HB6.out)
      have HSEL6 := Lib.hid (HSEL.out.later (HB3w.out.later (HB4.out.later HB6.out)))
      have HX6 := Lib.hid (HB3.out.later (HB4.out.later HB6.out))
      clear hb6 HKsel HWb HO5 HXr y0 y1 y2 y3 y4 y5 y6 y7 y8 y9
      go_wp2_with fail
      go_loopw [10, 45] (fun v i wr3 => ∃ (t : Nat), t ≤ sn ∧ i = .int .i64 t ∧ Hid (wr3.ownsRow W4.heap.size 9 1 v t (((SEL.take t).map fun c => lrow.getD (placeI b.cols c).toNat ByteArray.empty).map Value.string)) ∧ Hid (Blk wr3 W4.heap.size 90 #[.slice S0 ln lc]) ∧ Hid (Below W4.heap.size W4 wr3)) (fun _ i _ => sn - (intOf i).toNat)
      case atStart => exact ⟨0, Nat.zero_le _, rfl, by simpa [Hid] using HO6.out, HXr6.out, HB6.out⟩
      case round =>
        obtain ⟨t, ht, rfl, hO, hX, hB7⟩ := hrel
        have HB7w := Lib.hid (HB3w.out.later (HB4.out.later hB7.out))
        have HB7x := Lib.hid (HB3.out.later (HB4.out.later hB7.out))
        by_cases hlt3 : t < sn
        · have hsl : t < SEL.length := by rw [HSEL.out.1]; exact hlt3
          obtain ⟨j, hj1, hj2⟩ := HPK.out t hsl
          have HMS := Lib.hid (map_snocS (fun c => lrow.getD (placeI b.cols c).toNat ByteArray.empty) SEL t hsl)
          obtain ⟨sb, so, rfl, hsb, hsc⟩ := (HSEL.out.later HB7w.out).2 (by omega)
          have hcn := hsc t hlt3
          have HKc := Lib.hid (HKcell.out wr HB7w.out (.slice S0 ln lc) lrow (SEL.getD t ByteArray.empty) j (HLR.out.later hB7.out) hj1 (hjb.out j hj2))
          have HPV : Hid (lrow.getD (placeI b.cols (SEL.getD t ByteArray.empty)).toNat ByteArray.empty = lrow.getD j ByteArray.empty) := by unfold Hid; rw [hj1]; rfl
          rw [HPV.out] at HMS
          have htz : (t : Int) < (sn : Int) := by omega
          obtain ⟨y0, y1, y2, y3, y4, y5, y6, y7, y8, y9⟩ := HRd.out _ HB7x.out
          have px := hX.out.cell 0
          have zx := hX.out.lt
          simp at px
          have hz5 := hB7.out.size
          generalize SEL.getD t ByteArray.empty = cnm at *
          generalize lrow.getD j ByteArray.empty = cell at *
          generalize hXS : ((SEL.take t).map fun c => lrow.getD (placeI b.cols c).toNat ByteArray.empty) = XS at *
          clear hsc hj1 hj2 hsl hXS
          go_wp2_with fail
          refine HKc.out.mono ?_
          rintro e w8 ⟨rfl, hb8⟩
          have HO8 := Lib.hid (Own.own_later hO.out hb8)
          have HX8 := Lib.hid (hX.out.later hb8 zx)
          have HB8 := Lib.hid (hB7.out.later hb8)
          have hz8 := HB8.out.size
          have hrow : Hid (∀ oo, (w8.alloc oo).ownsRow W4.heap.size 9 1 _ t (XS.map Value.string)) := fun oo => Own.own_later HO8.out (Below.new _ _)
          clear hb8 y0 y1 y2 y3 y4 y5 y6 y7 y8 y9 px
          go_wp2_with (at_builtin; refine wpList_append_own _ rfl (.tmp 49) (.tmp 54) 25 rfl W4.heap.size 9 j0 _ 1 16 Tryz.underlying25 hj hk0 hk1 hk2 rfl (by decide) _ t _ rfl (hrow.out _) ⟨_, 0, none⟩ 1 1 [.string cell] rfl rfl ?n1 ?n2 ?n3 ?n4 ?n5 ?_)
          all_goals try (first | exact cells_atN _ #[.string cell] _ _ (by simp) | (simp [Value.oneCell']; done) | (unfold maxLen; omega) | omega | (simp; omega))
          intro v9 w9 hown9 hg9 _
          have HO9 : Hid (w9.ownsRow W4.heap.size 9 1 v9 (t + 1) (((SEL.take (t + 1)).map fun c => lrow.getD (placeI b.cols c).toNat ByteArray.empty).map Value.string)) := by
            unfold Hid
            rw [HMS.out, List.map_append]
            exact hown9
          have HX9 := Lib.hid ((HX8.out.alloc (.cells #[.string cell] 9)).grown hg9 (fun e => Own.own_blk_ne HO8.out HX8.out (by decide) e.symm))
          have HB9 := Lib.hid ((HB8.out.later (Below.new w8 (.cells #[.string cell] 9))).grown hg9 (by have := HB8.out.size; simp; omega) (fun g hg' => ((hrow.out (.cells #[] 0)).lt g hg').1))
          clear hown9 hg9
          go_wp2_with fail
          go_roundw
          case rel => exact ⟨t + 1, by omega, by go_num, HO9.out, HX9.out, HB9.out⟩
          case measure => simp [intOf]; omega
        · obtain rfl : t = sn := by omega
          have hpl : SEL.take t = SEL := List.take_of_length_le (by rw [HSEL.out.1]; exact Nat.le_refl _)
          have hPB : ((SEL.take t).map fun c => lrow.getD (placeI b.cols c).toNat ByteArray.empty) = projB b.cols SEL lrow := by rw [hpl]; rfl
          have hpbl : (projB b.cols SEL lrow).length = t := by unfold projB; rw [List.length_map]; exact HSEL.out.1
          have hown := hO.out
          rw [hPB] at hown
          obtain ⟨A4, c4, e4, _, _, _⟩ := Own.own_slice hown
          subst e4
          have HSub : Hid (Own.SubO wr W4.heap.size (.slice A4 t c4) (projB b.cols SEL lrow)) := by
            unfold Hid Own.SubO
            rw [hpbl]
            exact hown
          clear hpl hPB hown
          obtain ⟨vs, hRW⟩ := hRI.out
          have HRW := Lib.hid hRW
          have HRW3 := Lib.hid (hRW.later hB7.out)
          have HAP := Lib.hid (Own.OwnL.fresh hRW HSub.out (Nat.le_refl _))
          have hrow : Hid (∀ oo, (wr.alloc oo).ownsRow W3.heap.size 90 1 _ acc.length (Own.flat rowK acc vs)) := fun oo => Own.own_later HRW3.out.row (Below.new _ _)
          have haql := haccl.out
          have hz34 := HB4.out.size
          have hz45 := hB7.out.size
          have px := hX.out.cell 0
          have zx := hX.out.lt
          simp at px
          clear hRW hpbl
          rw [haql] at hrow
          go_wp2_with (at_builtin; refine wpList_append_own _ rfl (.tmp 57) (.tmp 60) 55 rfl W3.heap.size 90 i0 _ 1 24 Tryz.underlying55 hi hz0 hz1 hz2 rfl (by decide) _ q _ rfl (hrow.out _) ⟨_, 0, none⟩ 1 1 [.slice A4 t c4] rfl rfl ?m1 ?m2 ?m3 ?m4 ?m5 ?_)
          all_goals try (first | exact cells_atN _ #[.slice A4 t c4] _ _ (by simp) | (simp [Value.oneCell']; done) | (unfold maxLen; omega) | omega | (simp; omega))
          intro v9 w9 hown9 hg9 _
          have HN9 : Hid (RowsI w9 W3.heap.size v9 (acc ++ [projB b.cols SEL lrow])) := by
            have hX6 : Own.SubO (wr.alloc (.cells #[.slice A4 t c4] 90)) W3.heap.size (.slice A4 t c4) (projB b.cols SEL lrow) := Own.own_base (Own.own_later HSub.out (Below.new _ _)) (by omega)
            refine ⟨vs ++ [.slice A4 t c4], Own.OwnL.snoc (HRW3.out.later (Below.new wr (.cells #[.slice A4 t c4] 90))) hX6 HAP.out ?_ hg9 (by decide)⟩
            show w9.ownsRow W3.heap.size 90 1 v9 (acc.length + 1) (Own.flat rowK acc vs ++ [.slice A4 t c4])
            rw [haql]
            exact hown9
          have HB9 := Lib.hid (((HB4.out.trans (hB7.out.mono hz34)).later (Below.new wr (.cells #[.slice A4 t c4] 90))).grown hg9 (by simp; omega) (fun g hg' => ((hrow.out (.cells #[] 0)).lt g hg').1))
          have HE : Hid (acc ++ [projB b.cols SEL lrow] = (CL.take (q + 1)).map (projB b.cols SEL)) := by unfold Hid; rw [HPr.out, hacc.out]
          clear hown9 hg9 px
          go_wp2_with fail
          go_roundw
          case rel => exact ⟨q + 1, acc ++ [projB b.cols SEL lrow], by omega, by go_num, HE.out, by unfold Hid; rw [List.length_append, haql]; rfl, HN9.out, HB9.out⟩
          case measure => simp [intOf]; omega
    · obtain rfl : q = K := by omega
      have HEnd : Hid (acc = madeB b d rs) := by
        unfold Hid
        rw [HMD.out, hacc.out, List.take_of_length_le (by rw [← HKK.out]; exact Nat.le_refl _)]
      have HRE := Lib.hid ((hRI.out).base (show w.heap.size ≤ W3.heap.size by have h1 := HB3.out.size; omega))
      have HBE := Lib.hid (HB3w.out.later HB4.out)
      go_wp2_with fail
      go_ret
      exact ⟨_, rfl, by rw [← HEnd.out]; exact HRE.out, HBE.out⟩
end Go.Proofs.YtalpafaflgddpaaGreatDoor

namespace Go.Proofs.YtalpafaflgddpaaGreatDoor
open Go.RowKit
set_option linter.unusedSimpArgs false

theorem l30Put_any (A : Option Addr) (n c kk : Nat) (desc : Bool) (r0 : Value) (rs : List (List ByteArray)) (row : List ByteArray) (w : World) (h : RowsRd w w.heap.size A n rs) (hr : RowR w w.heap.size r0 row) (hn : n ≤ 1048576) (hkr : kk < row.length) (hkl : ∀ x ∈ rs, kk < x.length) (hsr : smallR row) (hsl : ∀ x ∈ rs, smallR x) :
    Calls Tryz.prog 87 #[.slice A n c, .agg #[r0], .int .i64 kk, .bool desc] w (PutPost w (Stab.mrg (ltK desc kk) rs [row]) w) := by
  cases desc
  · exact l30Put_asc A n c kk r0 rs row w h hr hn hkr hkl hsr hsl
  · exact l30Put_desc A n c kk r0 rs row w h hr hn hkr hkl hsr hsl
set_option maxRecDepth 100000 in
set_option maxHeartbeats 8000000 in
theorem l30Made_any (A : Option Addr) (n c : Nat) (b0 b1 b2 b3 c0 c1 c2 c3 c4 c5 : Value) (b : TableD) (d : QueryD) (rs : List (List ByteArray)) (w : World) (hb : TableR w w.heap.size b0 b1 b2 b3 b) (h : QueryR w w.heap.size c0 c1 c2 c3 c4 c5 d) (hr : RowsRd w w.heap.size A n rs) (hbs : b.small) (hs : d.small) (hrs : ∀ r ∈ rs, smallR r) (hn : n ≤ 24)
    (hfit : ∀ c ∈ d.wher, 0 ≤ placeI b.cols c.col) (hord : d.order ≠ ⟨#[]⟩ → 0 ≤ placeI b.cols d.order) (hcol : ∀ c ∈ d.cols, 0 ≤ placeI b.cols c) (hlim : 0 ≤ d.limit) (hlen_ : ∀ r ∈ rs, r.length = b.cols.length) :
    Calls Tryz.prog 53 #[.agg #[b0, b1, b2, b3], .agg #[c0, c1, c2, c3, c4, c5], .slice A n c] w (MadePost (madeB b d rs) w) := by
  obtain ⟨i0, hi, hz0, hz1, hz2⟩ := info_parts infoRowD
  obtain ⟨j0, hj, hk0, hk1, hk2⟩ := info_parts infoS
  have HTT := Lib.hid hb
  have HQQ := Lib.hid h
  have HRR := Lib.hid hr
  have HKS := Lib.hid (fun W (hW : Below w.heap.size w W) r0 row hm (hrr : RowR W W.heap.size r0 row) => l30Stays_any b0 b1 b2 b3 c0 c1 c2 c3 c4 c5 r0 b d row W (hb.later hW) (h.later hW) hrr hbs hs (hrs row hm) hfit (hlen_ row hm))
  have HLen := Lib.hid hr.1
  have HRS := Lib.hid hrs
  have HRL := Lib.hid hlen_
  have HF := Lib.hid (fun (L : List (List ByteArray)) r hm => order_mem (cols := b.cols) (d := d) (rs := L) (x := r) hm)
  obtain ⟨rfl, rfl, ⟨A2, n2, p2, rfl, s2, k2⟩, ⟨A3, n3, p3, rfl, s3, k3⟩⟩ := hb
  obtain ⟨rfl, ⟨B1, m1, q1, rfl, t1, l1⟩, ⟨B2, m2, q2, rfl, t2, l2⟩, rfl, rfl, rfl⟩ := h
  have hn2 : n2 ≤ 1048576 := by rw [← s2.1]; exact hbs.2.2.1.1
  have hm1 : m1 ≤ 1048576 := by rw [← t1.1]; exact hs.2.1.1
  have HSC := Lib.hid s2
  have HKP := Lib.hid (fun x W (hW : Below w.heap.size w W) => (l29Place_any A2 n2 p2 b.cols x W (s2.later hW) hn2).mono (R' := fun e w' => e = .returned (.int .i64 (placeI b.cols x)) ∧ Below W.heap.size W w') (fun e w' ⟨h1, h2⟩ => ⟨h1, h2 ▸ Below.refl _ _⟩))
  have HB0 := Lib.hid ((Below.new w (.cells #[.string b.name, .string b.glob, .slice A2 n2 p2, .slice A3 n3 p3] 43)).later (Below.new _ (.cells #[.string d.table, .slice B1 m1 q1, .slice B2 m2 q2, .string d.order, .bool d.desc, .int .i64 d.limit] 47)))
  obtain ⟨w0, hW0⟩ : ∃ w0, w0 = (w.alloc (.cells #[.string b.name, .string b.glob, .slice A2 n2 p2, .slice A3 n3 p3] 43)).alloc (.cells #[.string d.table, .slice B1 m1 q1, .slice B2 m2 q2, .string d.order, .bool d.desc, .int .i64 d.limit] 47) := ⟨_, rfl⟩
  have HX0 : Hid (Blk w0 w.heap.size 43 #[.string b.name, .string b.glob, .slice A2 n2 p2, .slice A3 n3 p3]) := by subst hW0; exact heap_two0 _ _ _
  have HX1 : Hid (Blk w0 (w.heap.size + 1) 47 #[.string d.table, .slice B1 m1 q1, .slice B2 m2 q2, .string d.order, .bool d.desc, .int .i64 d.limit]) := by subst hW0; exact heap_two1 _ _ _
  have HBB : Hid (Below w.heap.size w w0) := by subst hW0; exact HB0.out
  have Hz0 : Hid (w0.heap.size = w.heap.size + 1 + 1) := by subst hW0; simp [Hid]
  have HRd : Hid (∀ W', Below w0.heap.size w0 W' → (W'.cell? ⟨w.heap.size, 0, none⟩ = some (.string b.name) ∧ W'.cell? ⟨w.heap.size, 1, none⟩ = some (.string b.glob) ∧ W'.cell? ⟨w.heap.size, 2, none⟩ = some (.slice A2 n2 p2) ∧ W'.cell? ⟨w.heap.size, 3, none⟩ = some (.slice A3 n3 p3) ∧ W'.cell? ⟨w.heap.size + 1, 0, none⟩ = some (.string d.table) ∧ W'.cell? ⟨w.heap.size + 1, 1, none⟩ = some (.slice B1 m1 q1) ∧ W'.cell? ⟨w.heap.size + 1, 2, none⟩ = some (.slice B2 m2 q2) ∧ W'.cell? ⟨w.heap.size + 1, 3, none⟩ = some (.string d.order) ∧ W'.cell? ⟨w.heap.size + 1, 4, none⟩ = some (.bool d.desc) ∧ W'.cell? ⟨w.heap.size + 1, 5, none⟩ = some (.int .i64 d.limit))) := fun W' hW => by
    have e0 := HX0.out.later hW HX0.out.lt
    have e1 := HX1.out.later hW HX1.out.lt
    exact ⟨e0.at 0 rfl, e0.at 1 rfl, e0.at 2 rfl, e0.at 3 rfl, e1.at 0 rfl, e1.at 1 rfl, e1.at 2 rfl, e1.at 3 rfl, e1.at 4 rfl, e1.at 5 rfl⟩
  have hzb : w.heap.size < w0.heap.size := by rw [Hz0.out]; omega
  have hzc : w.heap.size + 1 < w0.heap.size := by rw [Hz0.out]; omega
  obtain ⟨LB, hLB⟩ : ∃ LB : Nat → List (List ByteArray), LB = fun k => sortedB b.cols d ((rs.take k).filter (staysB b.cols d.wher)) := ⟨_, rfl⟩
  have HLB0 : Hid (LB 0 = []) := by subst hLB; unfold Hid; simp only [List.take_zero, List.filter_nil]; exact List.eq_nil_of_length_eq_zero (order_len _ _ _)
  have HLBn : Hid (LB n = sortedB b.cols d (rs.filter (staysB b.cols d.wher))) := by subst hLB; unfold Hid; simp only []; rw [List.take_of_length_le (by rw [HLen.out]; exact Nat.le_refl _)]
  have HLBm : Hid (∀ k, ∀ x ∈ LB k, x ∈ rs) := by subst hLB; intro k x hx; exact List.mem_of_mem_take (List.mem_filter.1 (order_mem hx)).1
  have HLBl : Hid (∀ k, (LB k).length ≤ k) := by
    subst hLB
    intro k
    simp only []
    rw [order_len]
    exact filter_len _ _ _
  have HLBs : Hid (∀ k, k < rs.length → LB (k + 1) = if staysB b.cols d.wher (rs.getD k default) = true then (if d.order = ⟨#[]⟩ then LB k ++ [rs.getD k default] else Stab.mrg (ltK d.desc (placeI b.cols d.order).toNat) (LB k) [rs.getD k default]) else LB k) := by subst hLB; exact fun k hk => order_snoc b.cols d _ rs k hk
  have HMD : Hid (madeB b d rs = (cutB d.limit (LB n)).map (projB b.cols (selB b d))) := by unfold Hid madeB; rw [HLBn.out]
  have HPut := Lib.hid (fun W A m c r0 (L : List (List ByteArray)) row (hm : row ∈ rs) (hL : ∀ x ∈ L, x ∈ rs) (hlen : L.length ≤ 1048576) (kk : Nat) (hkk : placeI b.cols d.order = kk) (h1 : RowsRd W W.heap.size A m L) (h2 : RowR W W.heap.size r0 row) => l30Put_any A m c kk d.desc r0 L row W h1 h2 (by rw [← h1.1]; exact hlen) (by rw [hlen_ row hm]; have := (placeI_bd b.cols d.order).2; omega) (fun x hx => by rw [hlen_ x (hL x hx)]; have := (placeI_bd b.cols d.order).2; omega) (hrs row hm) (fun x hx => hrs x (hL x hx)))
  have HOR := Lib.hid (fun (h : d.order ≠ ⟨#[]⟩) => (⟨(placeI b.cols d.order).toNat, by have := hord h; omega⟩ : ∃ kk : Nat, placeI b.cols d.order = kk))
  have HT1 := Lib.hid t1
  have HCOL := Lib.hid hcol
  have HLIM := Lib.hid hlim
  clear s2 s3 t1 t2 hbs hs hrs hfit hord hcol hlen_ hr hLB hlim
  go_enter Tryz.func53, Tryz.ntmps53
  go_wp2_with fail
  rw [← hW0]
  clear hW0 HB0
  go_loopw [7, 8] (fun v i wr => ∃ (k : Nat) (A' : Option Addr) (m cap : Nat), k ≤ n ∧ i = .int .i64 k ∧ v = .slice A' m cap ∧ m ≤ k ∧ Hid (RowsRd wr wr.heap.size A' m (LB k)) ∧ Below w0.heap.size w0 wr ∧ Hid (d.order = ⟨#[]⟩ → ∃ cs, wr.ownsRow w0.heap.size 90 1 (.slice A' m cap) m cs ∧ CellsG 1 (rowC w0 w0.heap.size) (LB k) cs)) (fun _ i _ => n - (intOf i).toNat)
  case atStart =>
    refine ⟨0, some ⟨w.heap.size + 1 + 1, 0, none⟩, 0, 0, Nat.zero_le _, rfl, rfl, Nat.le_refl _, ?_, Below.new _ _, fun _ => ⟨[], ?_, ?_⟩⟩
    · rw [HLB0.out]; exact ⟨rfl, fun h => absurd h (by omega)⟩
    · rw [← Hz0.out]
      simpa using World.ownsRow_lit (e := 90) (size := 1) w0 #[] 0 (Nat.le_refl _) (by omega) rfl
    · rw [HLB0.out]; rfl
  case round =>
    obtain ⟨k, A', m, cap, hk, rfl, rfl, hmk, hRR, hb, hOw⟩ := hrel
    have HB := Lib.hid hb
    have HBw := Lib.hid (HBB.out.later hb)
    have hzr := hb.size
    clear hb
    by_cases hlt : k < n
    · have hl : k < rs.length := by rw [HLen.out]; exact hlt
      obtain ⟨rb, ro, rfl, hrb, hcn⟩ := HRR.out.2 (by omega)
      obtain ⟨rv, hrv, hrow⟩ := hcn k hlt
      clear hcn
      have HROW := Lib.hid hrow
      obtain ⟨R0, rn, rc, rfl, _, _⟩ := hrow
      have HLs := Lib.hid (HLBs.out k hl)
      have hmem := getD_memD rs k hl
      have HMem := Lib.hid hmem
      have HSt := Lib.hid (fun W (hW : Below w.heap.size w W) => HKS.out W hW (.slice R0 rn rc) (rs.getD k default) hmem (HROW.out.later hW))
      clear hmem hl
      generalize rs.getD k default = row at *
      generalize hy : staysB b.cols d.wher row = y at *
      clear hy
      have hkz : (k : Int) < (n : Int) := by omega
      have HSW : Hid (∀ W', Below wr.heap.size wr W' → ((W'.cell? ⟨w.heap.size, 0, none⟩ = some (.string b.name) ∧ W'.cell? ⟨w.heap.size, 1, none⟩ = some (.string b.glob) ∧ W'.cell? ⟨w.heap.size, 2, none⟩ = some (.slice A2 n2 p2) ∧ W'.cell? ⟨w.heap.size, 3, none⟩ = some (.slice A3 n3 p3) ∧ W'.cell? ⟨w.heap.size + 1, 0, none⟩ = some (.string d.table) ∧ W'.cell? ⟨w.heap.size + 1, 1, none⟩ = some (.slice B1 m1 q1) ∧ W'.cell? ⟨w.heap.size + 1, 2, none⟩ = some (.slice B2 m2 q2) ∧ W'.cell? ⟨w.heap.size + 1, 3, none⟩ = some (.string d.order) ∧ W'.cell? ⟨w.heap.size + 1, 4, none⟩ = some (.bool d.desc) ∧ W'.cell? ⟨w.heap.size + 1, 5, none⟩ = some (.int .i64 d.limit)) ∧ W'.cell? ⟨rb, ro + k, none⟩ = some (.slice R0 rn rc))) := fun W' hW => ⟨HRd.out _ (HB.out.later hW), ((HBw.out.later hW).cell (p := ⟨rb, ro + k, none⟩) hrb).trans hrv⟩
      obtain ⟨⟨x0, x1, x2, x3, x4, x5, x6, x7, x8, x9⟩, xa⟩ := HSW.out _ (Below.refl _ _)
      go_wp2_with fail
      go_region_held3 (fun W' => (W'.cell? ⟨w.heap.size, 0, none⟩ = some (.string b.name) ∧ W'.cell? ⟨w.heap.size, 1, none⟩ = some (.string b.glob) ∧ W'.cell? ⟨w.heap.size, 2, none⟩ = some (.slice A2 n2 p2) ∧ W'.cell? ⟨w.heap.size, 3, none⟩ = some (.slice A3 n3 p3) ∧ W'.cell? ⟨w.heap.size + 1, 0, none⟩ = some (.string d.table) ∧ W'.cell? ⟨w.heap.size + 1, 1, none⟩ = some (.slice B1 m1 q1) ∧ W'.cell? ⟨w.heap.size + 1, 2, none⟩ = some (.slice B2 m2 q2) ∧ W'.cell? ⟨w.heap.size + 1, 3, none⟩ = some (.string d.order) ∧ W'.cell? ⟨w.heap.size + 1, 4, none⟩ = some (.bool d.desc) ∧ W'.cell? ⟨w.heap.size + 1, 5, none⟩ = some (.int .i64 d.limit)) ∧ W'.cell? ⟨rb, ro + k, none⟩ = some (.slice R0 rn rc))
        (first | exact HSW.out _ hb1 | exact HSW.out _ (Below.refl _ _).drew)
        (first | (go_at_call 86; refine (HSt.out _ (by exact HBw.out.drew)).mono ?_; rintro e w1 ⟨rfl, hb1'⟩; have hb1 := undrew hb1'; clear hb1'))
      have HB1 := Lib.hid (HB.out.later hb1)
      have HBw1 := Lib.hid (HBw.out.later hb1)
      have HRR1 := Lib.hid (hRR.out.later hb1)
      have HOw1 : Hid (d.order = ⟨#[]⟩ → ∃ cs, w1.ownsRow w0.heap.size 90 1 (.slice A' m cap) m cs ∧ CellsG 1 (rowC w0 w0.heap.size) (LB k) cs) := fun h => by
        obtain ⟨cs, h1, h2⟩ := hOw.out h
        exact ⟨cs, Own.own_later h1 hb1, h2⟩
      have hz1r := HB1.out.size
      have HSW1 : Hid (∀ W', Below w1.heap.size w1 W' → ((W'.cell? ⟨w.heap.size, 0, none⟩ = some (.string b.name) ∧ W'.cell? ⟨w.heap.size, 1, none⟩ = some (.string b.glob) ∧ W'.cell? ⟨w.heap.size, 2, none⟩ = some (.slice A2 n2 p2) ∧ W'.cell? ⟨w.heap.size, 3, none⟩ = some (.slice A3 n3 p3) ∧ W'.cell? ⟨w.heap.size + 1, 0, none⟩ = some (.string d.table) ∧ W'.cell? ⟨w.heap.size + 1, 1, none⟩ = some (.slice B1 m1 q1) ∧ W'.cell? ⟨w.heap.size + 1, 2, none⟩ = some (.slice B2 m2 q2) ∧ W'.cell? ⟨w.heap.size + 1, 3, none⟩ = some (.string d.order) ∧ W'.cell? ⟨w.heap.size + 1, 4, none⟩ = some (.bool d.desc) ∧ W'.cell? ⟨w.heap.size + 1, 5, none⟩ = some (.int .i64 d.limit)) ∧ W'.cell? ⟨rb, ro + k, none⟩ = some (.slice R0 rn rc))) := fun W' hW => HSW.out _ (hb1.later hW)
      clear hb1 x0 x1 x2 x3 x4 x5 x6 x7 x8 x9 xa
      cases y
      · have HE : Hid (LB (k + 1) = LB k) := by unfold Hid; rw [HLs.out, if_neg (by simp)]
        go_wp2_with fail
        go_roundw
        case rel => exact ⟨k + 1, A', m, cap, by omega, by go_num, rfl, by omega, by rw [HE.out]; exact HRR1.out, HB1.out, by rw [HE.out]; exact HOw1.out⟩
        case measure => simp [intOf]; omega
      · by_cases ho : d.order = ⟨#[]⟩
        · have HE : Hid (LB (k + 1) = LB k ++ [row]) := by unfold Hid; rw [HLs.out, if_pos rfl, if_pos ho]
          obtain ⟨cs, hown, hcs⟩ := HOw1.out ho
          have HO := Lib.hid hown
          have HC := Lib.hid hcs
          have HOE := Lib.hid ho
          obtain ⟨⟨x0, x1, x2, x3, x4, x5, x6, x7, x8, x9⟩, xa⟩ := HSW1.out _ (Below.refl _ _)
          have hoi : d.order.toList.isEmpty = true := by rw [ho, toList_data]; rfl
          clear hown hcs ho
          have hrowx : Hid (∀ oo, (w1.alloc oo).ownsRow w0.heap.size 90 1 _ m cs) := fun oo => Own.own_later HO.out (Below.new _ _)
          go_wp2_with (at_builtin; refine wpList_append_own _ rfl (.tmp 32) (.tmp 37) 55 rfl w0.heap.size 90 i0 _ 1 24 Tryz.underlying55 hi hz0 hz1 hz2 rfl (by decide) _ m _ rfl (hrowx.out _) ⟨_, 0, none⟩ 1 1 [.slice R0 rn rc] rfl rfl ?a10 ?b10 ?c10 ?d10 ?e10 ?_)
          all_goals try (first | exact cells_atN _ #[.slice R0 rn rc] _ _ (by simp) | (simp [Value.oneCell']; done) | (unfold maxLen; omega) | omega | (simp; omega))
          intro v5 w5 hown1 hg1 _
          have HB5 := Lib.hid (below_own (HB1.out.later (Below.new w1 (.cells #[.slice R0 rn rc] 90))) (hrowx.out _) (Nat.le_refl _) hg1)
          have HC5 := Lib.hid (CellsG.snoc (R := rowC w0 w0.heap.size) (sz := 1) (d := row) (c := [.slice R0 rn rc]) ⟨_, rfl, HROW.out.later HBB.out⟩ rfl HC.out)
          have HO5 := Lib.hid hown1
          obtain ⟨A5, cap5, e5, _, _⟩ := Own.own_slice hown1
          subst e5
          have hl5 : (LB k ++ [row]).length = m + 1 := by rw [List.length_append, HRR1.out.1]; rfl
          obtain ⟨_, _, e6, _, hrd5⟩ := rows_of_row hown1 hl5 HC5.out HB5.out
          injection e6 with e6 _ e7
          subst e6 e7
          have HR5 := Lib.hid hrd5
          clear hown1 hg1 x0 x1 x2 x3 x4 x5 x6 x7 x8 x9 xa hrd5 hl5
          go_wp2_with fail
          go_roundw
          case rel => exact ⟨k + 1, A5, m + 1, cap5, by omega, by go_num, rfl, by omega, by rw [HE.out]; exact HR5.out, HB5.out, fun _ => ⟨_, HO5.out, by rw [HE.out]; exact HC5.out⟩⟩
          case measure => simp [intOf]; omega
        · obtain ⟨kk, hkk⟩ := HOR.out ho
          have HE : Hid (LB (k + 1) = Stab.mrg (ltK d.desc kk) (LB k) [row]) := by unfold Hid; rw [HLs.out, if_pos rfl, if_neg ho, hkk]; rfl
          have HKPl : Hid (∀ W, Below w.heap.size w W → Calls Tryz.prog 84 #[.slice A2 n2 p2, .string d.order] W fun e w' => e = .returned (.int .i64 (kk : Nat)) ∧ Below W.heap.size W w') := fun W hW => by
            have h := HKP.out d.order W hW
            rw [hkk] at h
            exact h
          have HPk := Lib.hid (fun W (hW : Below w1.heap.size w1 W) => HPut.out W A' m cap (.slice R0 rn rc) (LB k) row HMem.out (HLBm.out k) (by have h1 := HLBl.out k; omega) kk hkk (HRR1.out.later hW) (HROW.out.later (HBw1.out.later hW)))
          have hoe := str_beq ho
          have hoe3 := ne_empty ho
          have HNO := Lib.hid ho
          obtain ⟨⟨x0, x1, x2, x3, x4, x5, x6, x7, x8, x9⟩, xa⟩ := HSW1.out _ (Below.refl _ _)
          clear ho hkk
          go_wp2_with fail
          go_region_held3 (fun W' => (W'.cell? ⟨w.heap.size, 0, none⟩ = some (.string b.name) ∧ W'.cell? ⟨w.heap.size, 1, none⟩ = some (.string b.glob) ∧ W'.cell? ⟨w.heap.size, 2, none⟩ = some (.slice A2 n2 p2) ∧ W'.cell? ⟨w.heap.size, 3, none⟩ = some (.slice A3 n3 p3) ∧ W'.cell? ⟨w.heap.size + 1, 0, none⟩ = some (.string d.table) ∧ W'.cell? ⟨w.heap.size + 1, 1, none⟩ = some (.slice B1 m1 q1) ∧ W'.cell? ⟨w.heap.size + 1, 2, none⟩ = some (.slice B2 m2 q2) ∧ W'.cell? ⟨w.heap.size + 1, 3, none⟩ = some (.string d.order) ∧ W'.cell? ⟨w.heap.size + 1, 4, none⟩ = some (.bool d.desc) ∧ W'.cell? ⟨w.heap.size + 1, 5, none⟩ = some (.int .i64 d.limit)) ∧ W'.cell? ⟨rb, ro + k, none⟩ = some (.slice R0 rn rc))
            (first | exact HSW1.out _ hb3 | exact HSW1.out _ hb2 | exact HSW1.out _ (Below.refl _ _).drew)
            (first
              | (go_at_call 84; refine (HKPl.out _ (by exact HBw1.out.drew)).mono ?_; rintro e w2 ⟨rfl, hb2'⟩; have hb2 := undrew hb2'; clear hb2')
              | (go_at_call 87; refine (HPk.out _ (by exact hb2)).mono ?_; rintro e w3 ⟨v3, cs3, rfl, hown3, hcs3, hb3'⟩; obtain ⟨A5, cap5, e5, _, hrd3⟩ := rows_of_row hown3 rfl hcs3 hb3'; subst e5; have HRD3 := Lib.hid hrd3; have hb3 := hb2.later hb3'; clear hb3' hown3 hcs3 hrd3))
          have HB3 := Lib.hid (HB1.out.later hb3)
          have hml : (Stab.mrg (ltK d.desc kk) (LB k) [row]).length = m + 1 := by rw [Stab.mrg_len, HRR1.out.1]; rfl
          have HML := Lib.hid hml
          have HRD4 : Hid (RowsRd w3 w3.heap.size A5 (m + 1) (Stab.mrg (ltK d.desc kk) (LB k) [row])) := by have h := HRD3.out; rw [hml] at h; exact h
          clear hml
          clear hb2 hb3 x0 x1 x2 x3 x4 x5 x6 x7 x8 x9 xa
          go_wp2_with fail
          go_roundw
          case rel => exact ⟨k + 1, A5, m + 1, cap5, by omega, by go_num, by rw [HML.out], by omega, by rw [HE.out]; exact HRD4.out, HB3.out, fun h => absurd h HNO.out⟩
          case measure => simp [intOf]; omega
    · obtain rfl : k = n := by omega
      obtain ⟨W1, rfl⟩ : ∃ W1, W1 = wr := ⟨wr, rfl⟩
      have HMD2 := Lib.hid HMD.out
      have HRD := Lib.hid hRR.out
      have hLm : (LB k).length = m := hRR.out.1
      have HLL : Hid (∀ q, q < m → ((LB k).getD q default).length = b.cols.length) := fun q hq => HRL.out _ (HLBm.out k _ (getD_memD _ q (by rw [hLm]; exact hq)))
      have hm24 : m ≤ 24 := by omega
      have hmn : m ≤ k := hmk
      clear hOw hRR hmk
      generalize LB k = L at *
      obtain ⟨K, hK⟩ : ∃ K, K = (cutB d.limit L).length := ⟨_, rfl⟩
      have HKd : Hid (K = if d.limit = 0 then m else min m d.limit.toNat) := by unfold Hid; rw [hK, cut_len d.limit L, hLm]
      have HPROJ := Lib.hid (fun q (hq : q < K) => (⟨map_snoc (projB b.cols (selB b d)) (cutB d.limit L) q (by rw [← hK]; exact hq), cut_getD d.limit L q (by rw [← hK]; exact hq)⟩ : _ ∧ _))
      have HKK := Lib.hid hK
      have hK24 : K ≤ 24 := by have h := HKd.out; split at h <;> omega
      clear hK hLm
      obtain ⟨x0, x1, x2, x3, x4, x5, x6, x7, x8, x9⟩ := HRd.out _ HB.out
      have HSEL0 : Hid (selB b d = if d.cols.length = 0 then b.cols else d.cols) := rfl
      have HSC1 := Lib.hid HT1.out.1
      go_upto_if 56 with fail
      go_cut [9] (fun v wx => ∃ (SA : Option Addr) (sn sp : Nat), v = .slice SA sn sp ∧ wx = W1 ∧ Hid (Strs w w.heap.size SA sn (selB b d)) ∧ Hid (∀ t, t < (selB b d).length → ∃ j, placeI b.cols ((selB b d).getD t ByteArray.empty) = (j : Nat) ∧ j < n2) ∧ sn ≤ 1048576)
      case first => as_aux_lemma =>
        by_cases h0 : m1 = 0
        · have hsb : selB b d = b.cols := by rw [HSEL0.out, HSC1.out, if_pos h0]
          have HSEL : Hid (Strs w w.heap.size A2 n2 (selB b d)) := by unfold Hid; rw [hsb]; exact HSC.out
          have HPK : Hid (∀ t, t < (selB b d).length → ∃ j, placeI b.cols ((selB b d).getD t ByteArray.empty) = (j : Nat) ∧ j < n2) := fun t ht => by
            rw [hsb] at ht ⊢
            have h1 := place_of_mem (getD_memS b.cols t ht)
            have h2 := (placeI_bd b.cols (b.cols.getD t ByteArray.empty)).2
            rw [HSC.out.1] at h2
            exact ⟨(placeI b.cols (b.cols.getD t ByteArray.empty)).toNat, by omega, by omega⟩
          clear hsb
          subst h0
          go_wp2_with fail
          go_meet
          case rel => exact ⟨A2, n2, p2, rfl, rfl, HSEL.out, HPK.out, by omega⟩
        · have hsb : selB b d = d.cols := by rw [HSEL0.out, HSC1.out, if_neg h0]
          have HSEL : Hid (Strs w w.heap.size B1 m1 (selB b d)) := by unfold Hid; rw [hsb]; exact HT1.out
          have HPK : Hid (∀ t, t < (selB b d).length → ∃ j, placeI b.cols ((selB b d).getD t ByteArray.empty) = (j : Nat) ∧ j < n2) := fun t ht => by
            rw [hsb] at ht ⊢
            have h1 := HCOL.out _ (getD_memS d.cols t ht)
            have h2 := (placeI_bd b.cols (d.cols.getD t ByteArray.empty)).2
            rw [HSC.out.1] at h2
            exact ⟨(placeI b.cols (d.cols.getD t ByteArray.empty)).toNat, by omega, by omega⟩
          clear hsb
          have i1 : ((m1 : Int) == 0) = false := by rw [beq_eq_false_iff_ne]; omega
          have i2 : (m1 == 0) = false := by rw [beq_eq_false_iff_ne]; omega
          go_wp2_with fail
          go_meet
          case rel => exact ⟨B1, m1, q1, rfl, rfl, HSEL.out, HPK.out, by omega⟩
      case rest => as_aux_lemma =>
      obtain ⟨SA, sn, sp, rfl, rfl, HSEL, HPK, hsnb⟩ := hcut
      obtain ⟨W1, rfl⟩ : ∃ W1, W1 = wc := ⟨wc, rfl⟩
      clear HSEL0 HSC1
      generalize selB b d = SEL at *
      go_wp2_with fail
      go_loopw [10, 11] (fun v i wr2 => ∃ (q : Nat) (acc : List (List ByteArray)), q ≤ K ∧ i = .int .i64 q ∧ Hid (acc = ((cutB d.limit L).take q).map (projB b.cols SEL)) ∧ Hid (acc.length = q) ∧ Hid (RowsI wr2 W1.heap.size v acc) ∧ Below W1.heap.size W1 wr2) (fun _ i _ => K - (intOf i).toNat)
      case atStart => exact ⟨0, [], Nat.zero_le _, rfl, by simp [Hid], rfl, rowsI_lit W1 _ (Nat.le_refl _), Below.new _ _⟩
      case round =>
        obtain ⟨q, acc, hq, rfl, hacc, haccl, hRI, hb2⟩ := hrel
        obtain ⟨W2, rfl⟩ : ∃ W2, W2 = wr := ⟨wr, rfl⟩
        have HB2 := Lib.hid hb2
        clear hb2 x0 x1 x2 x3 x4 x5 x6 x7 x8 x9
        obtain ⟨y0, y1, y2, y3, y4, y5, y6, y7, y8, y9⟩ := HRd.out _ (HB.out.later HB2.out)
        by_cases hqK : q < K
        · have hqm : q < m := by have h := HKd.out; split at h <;> omega
          have hqmz : (q : Int) < (m : Int) := by omega
          go_upto_region 14 with fail
          go_cut [74] (fun v wx => v = .bool true ∧ wx = W2)
          case first => as_aux_lemma =>
            by_cases hL0 : d.limit = 0
            · rw [hL0] at y9
              go_wp2_with fail
              go_meet
              case rel => exact ⟨rfl, rfl⟩
            · have hql : (q : Int) < d.limit := by have h := HKd.out; rw [if_neg hL0] at h; omega
              have hle := int_beq hL0
              go_wp2_with fail
              go_meet
              case rel => exact ⟨rfl, rfl⟩
          case rest => as_aux_lemma =>
          obtain ⟨rfl, rfl⟩ := hcut
          obtain ⟨W2, rfl⟩ : ∃ W2, W2 = wc := ⟨wc, rfl⟩
          obtain ⟨lb, lo, rfl, hlb, hlc⟩ := (HRD.out.later HB2.out).2 (by omega)
          obtain ⟨lv, hlv, hlr⟩ := hlc q hqm
          obtain ⟨L0, ln, lc, rfl, hlS, _⟩ := hlr
          have hrl := HLL.out q hqm
          have HLS := Lib.hid hlS
          have hln : n2 = ln := by rw [← hlS.1, hrl]; exact HSC.out.1.symm
          have HPr := Lib.hid (HPROJ.out q hqK)
          clear hlc hlS hrl
          subst hln
          generalize L.getD q default = lrow at *
          have HW3 := Lib.hid (Below.new W2 (.cells #[.slice none 0 0] 90))
          have HX3 : Hid (Blk (W2.alloc (.cells #[.slice none 0 0] 90)) W2.heap.size 90 #[.slice none 0 0]) := heap_last rfl
          go_wp2_with fail
          go_loopw [13] (fun i wr3 => ∃ (t : Nat) (A4 : Option Addr) (c4 : Nat), t ≤ sn ∧ i = .int .i64 t ∧ Hid (Blk wr3 W2.heap.size 90 #[.slice A4 t c4]) ∧ Hid (wr3.ownsRow (W2.heap.size + 1) 9 1 (.slice A4 t c4) t (((SEL.take t).map fun c => lrow.getD (placeI b.cols c).toNat ByteArray.empty).map Value.string)) ∧ Hid (Below W2.heap.size W2 wr3)) (fun i _ => sn - (intOf i).toNat)
          case atStart => exact ⟨0, none, 0, Nat.zero_le _, rfl, HX3.out, by unfold Hid; simpa using World.ownsRow_nil _ _ _ _, HW3.out⟩
          case round =>
            obtain ⟨t, A4, c4, ht, rfl, hX, hO, hB3⟩ := hrel
            have HBr := Lib.hid (HB.out.later (HB2.out.later hB3.out))
            have HBw3 := Lib.hid (HBB.out.later HBr.out)
            by_cases hlt3 : t < sn
            · have hsl : t < SEL.length := by rw [HSEL.out.1]; exact hlt3
              obtain ⟨j, hj1, hj2⟩ := HPK.out t hsl
              have HMS := Lib.hid (map_snocS (fun c => lrow.getD (placeI b.cols c).toNat ByteArray.empty) SEL t hsl)
              obtain ⟨L0b, L0o, rfl, hL0b, hL0c⟩ := HLS.out.2 (by omega)
              have hck := cell_later hB3.out (hL0c j hj2)
              have HKj : Hid (∀ W, Below w.heap.size w W → Calls Tryz.prog 84 #[.slice A2 n2 p2, .string (SEL.getD t ByteArray.empty)] W fun e w' => e = .returned (.int .i64 (j : Nat)) ∧ Below W.heap.size W w') := fun W hW => by
                have h := HKP.out (SEL.getD t ByteArray.empty) W hW
                rw [hj1] at h
                exact h
              obtain ⟨sb, so, rfl, hsb, hsc⟩ := (HSEL.out.later (HBB.out.later (HB.out.later HB2.out))).2 (by omega)
              have hcn := cell_later hB3.out (hsc t hlt3)
              have hzW : w.heap.size < W2.heap.size := by have h1 := HB.out.size; have h2 := HB2.out.size; omega
              have HPV : Hid (lrow.getD (placeI b.cols (SEL.getD t ByteArray.empty)).toNat ByteArray.empty = lrow.getD j ByteArray.empty) := by unfold Hid; rw [hj1]; rfl
              rw [HPV.out] at HMS
              have hlq := cell_later hB3.out hlv
              have px := hX.out.cell 0
              have zx := hX.out.lt
              simp at px
              have htz : (t : Int) < (sn : Int) := by omega
              have hjz : (j : Int) < (n2 : Int) := by omega
              generalize SEL.getD t ByteArray.empty = cnm at *
              generalize lrow.getD j ByteArray.empty = cell at *
              generalize hXS : ((SEL.take t).map fun c => lrow.getD (placeI b.cols c).toNat ByteArray.empty) = XS at *
              have y2' := (HRd.out _ HBr.out).2.2.1
              have HSW : Hid (∀ W', Below wr.heap.size wr W' → ((W'.cell? ⟨lb, lo + q, none⟩ = some (.slice (some ⟨L0b, L0o, none⟩) n2 lc) ∧ W'.cell? ⟨w.heap.size, 2, none⟩ = some (.slice A2 n2 p2) ∧ W'.cell? ⟨sb, so + t, none⟩ = some (.string cnm) ∧ W'.cell? ⟨L0b, L0o + j, none⟩ = some (.string cell)))) := fun W' hW => ⟨cell_later hW hlq, cell_later hW y2', cell_later hW hcn, cell_later hW hck⟩
              have HSR : Hid (∀ W', Below W2.heap.size wr W' → ((W'.cell? ⟨lb, lo + q, none⟩ = some (.slice (some ⟨L0b, L0o, none⟩) n2 lc) ∧ W'.cell? ⟨w.heap.size, 2, none⟩ = some (.slice A2 n2 p2) ∧ W'.cell? ⟨sb, so + t, none⟩ = some (.string cnm) ∧ W'.cell? ⟨L0b, L0o + j, none⟩ = some (.string cell)))) := fun W' hW => ⟨(hW.cell (p := ⟨lb, lo + q, none⟩) hlb).trans hlq, (hW.cell (p := ⟨w.heap.size, 2, none⟩) hzW).trans y2', (hW.cell (p := ⟨sb, so + t, none⟩) hsb).trans hcn, (hW.cell (p := ⟨L0b, L0o + j, none⟩) hL0b).trans hck⟩
              clear hsc hL0c hj1 hj2 hsl hXS hlq hck hcn y2'
              obtain ⟨p1, p2', p3, p4⟩ := HSW.out _ (Below.refl _ _)
              go_wp2_with fail
              refine wp_region_held_drew (S := fun W' => (W'.cell? ⟨lb, lo + q, none⟩ = some (.slice (some ⟨L0b, L0o, none⟩) n2 lc) ∧ W'.cell? ⟨w.heap.size, 2, none⟩ = some (.slice A2 n2 p2) ∧ W'.cell? ⟨sb, so + t, none⟩ = some (.string cnm) ∧ W'.cell? ⟨L0b, L0o + j, none⟩ = some (.string cell))) (by kernel_rfl) ?kst (fun hHeld => ?rst)
              case kst => exact HSW.out _ (Below.refl wr.heap.size wr).drew
              refine wpAnyH_take (i := 0) (v := ?va1) rfl (by kernel_rfl) (by kernel_rfl) (by kernel_rfl) (fun _ _ _ h => h) (Or.inl ⟨by rfl, ?hy1⟩) (by assumption) ?re1
              case hy1 =>
                intro w hSw
                (try dsimp only at hSw)
                go_simp
                (try with_reducible rfl)
              try simp only [Act.put, List.setIfInBounds_toArray, List.set_cons_zero, List.set_cons_succ, List.getElem_toArray, List.getElem_cons_succ, List.getElem_cons_zero]
              refine wpAnyH_take (i := 2) (v := ?va2) rfl (by kernel_rfl) (by kernel_rfl) (by kernel_rfl) (fun _ _ _ h => h) (Or.inl ⟨by rfl, ?hy2⟩) (by assumption) ?re2
              case hy2 =>
                intro w hSw
                (try dsimp only at hSw)
                go_simp
                (try with_reducible rfl)
              try simp only [Act.put, List.setIfInBounds_toArray, List.set_cons_zero, List.set_cons_succ, List.getElem_toArray, List.getElem_cons_succ, List.getElem_cons_zero]
              refine wpAnyH_take (i := 3) (v := ?va3) rfl (by kernel_rfl) (by kernel_rfl) (by kernel_rfl) (fun _ _ _ h => h) (Or.inl ⟨by rfl, ?hy3⟩) (by assumption) ?re3
              case hy3 =>
                intro w hSw
                (try dsimp only at hSw)
                go_simp
                (try with_reducible rfl)
              try simp only [Act.put, List.setIfInBounds_toArray, List.set_cons_zero, List.set_cons_succ, List.getElem_toArray, List.getElem_cons_succ, List.getElem_cons_zero]
              refine wpAnyH_take (i := 4) (v := ?va4) rfl (by kernel_rfl) (by kernel_rfl) (by kernel_rfl) (fun _ _ _ h => h) (Or.inl ⟨by rfl, ?hy4⟩) (by assumption) ?re4
              case hy4 =>
                intro w hSw
                (try dsimp only at hSw)
                go_simp
                (try with_reducible rfl)
              try simp only [Act.put, List.setIfInBounds_toArray, List.set_cons_zero, List.set_cons_succ, List.getElem_toArray, List.getElem_cons_succ, List.getElem_cons_zero]
              refine wpAnyH_take (i := 5) (v := ?va5) rfl (by kernel_rfl) (by kernel_rfl) (by kernel_rfl) (fun _ _ _ h => h) (Or.inl ⟨by rfl, ?hy5⟩) (by assumption) ?re5
              case hy5 =>
                intro w hSw
                (try dsimp only at hSw)
                go_simp
                (try with_reducible rfl)
              try simp only [Act.put, List.setIfInBounds_toArray, List.set_cons_zero, List.set_cons_succ, List.getElem_toArray, List.getElem_cons_succ, List.getElem_cons_zero]
              refine wpAnyH_take (i := 6) (v := ?va6) rfl (by kernel_rfl) (by kernel_rfl) (by kernel_rfl) (fun _ _ _ h => h) (Or.inl ⟨by rfl, ?hy6⟩) (by assumption) ?re6
              case hy6 =>
                intro w hSw
                (try dsimp only at hSw)
                go_simp
                (try with_reducible rfl)
              try simp only [Act.put, List.setIfInBounds_toArray, List.set_cons_zero, List.set_cons_succ, List.getElem_toArray, List.getElem_cons_succ, List.getElem_cons_zero]
              refine wpAnyH_take (i := 7) (v := ?va7) rfl (by kernel_rfl) (by kernel_rfl) (by kernel_rfl) (fun _ _ _ h => h) (Or.inl ⟨by rfl, ?hy7⟩) (by assumption) ?re7
              case hy7 =>
                intro w hSw
                (try dsimp only at hSw)
                go_simp
                (try with_reducible rfl)
              try simp only [Act.put, List.setIfInBounds_toArray, List.set_cons_zero, List.set_cons_succ, List.getElem_toArray, List.getElem_cons_succ, List.getElem_cons_zero]
              refine wpAnyH_take (i := 8) (v := ?va8) rfl (by kernel_rfl) (by kernel_rfl) (by kernel_rfl) (fun _ _ _ h => h) (Or.inl ⟨by rfl, ?hy8⟩) (by assumption) ?re8
              case hy8 =>
                intro w hSw
                (try dsimp only at hSw)
                go_simp
                (try with_reducible rfl)
              try simp only [Act.put, List.setIfInBounds_toArray, List.set_cons_zero, List.set_cons_succ, List.getElem_toArray, List.getElem_cons_succ, List.getElem_cons_zero]
              refine wpAnyH_take (i := 9) (v := ?va9) rfl (by kernel_rfl) (by kernel_rfl) (by kernel_rfl) (fun _ _ _ h => h) (Or.inl ⟨by rfl, ?hy9⟩) (by assumption) ?re9
              case hy9 =>
                intro w hSw
                (try dsimp only at hSw)
                go_simp
                (try with_reducible rfl)
              try simp only [Act.put, List.setIfInBounds_toArray, List.set_cons_zero, List.set_cons_succ, List.getElem_toArray, List.getElem_cons_succ, List.getElem_cons_zero]
              refine wpAnyH_take (i := 10) (v := ?va10) rfl (by kernel_rfl) (by kernel_rfl) (by kernel_rfl) (fun _ _ _ h => h) (Or.inl ⟨by rfl, ?hy10⟩) (by assumption) ?re10
              case hy10 =>
                intro w hSw
                (try dsimp only at hSw)
                go_simp
                (try with_reducible rfl)
              try simp only [Act.put, List.setIfInBounds_toArray, List.set_cons_zero, List.set_cons_succ, List.getElem_toArray, List.getElem_cons_succ, List.getElem_cons_zero]
              refine wpAnyH_take (i := 11) (v := ?va11) rfl (by kernel_rfl) (by kernel_rfl) (by kernel_rfl) (fun _ _ _ h => h) (Or.inl ⟨by rfl, ?hy11⟩) (by assumption) ?re11
              case hy11 =>
                intro w hSw
                (try dsimp only at hSw)
                go_simp
                (try with_reducible rfl)
              try simp only [Act.put, List.setIfInBounds_toArray, List.set_cons_zero, List.set_cons_succ, List.getElem_toArray, List.getElem_cons_succ, List.getElem_cons_zero]
              refine wpAnyH_take (i := 12) (v := ?va12) rfl (by kernel_rfl) (by kernel_rfl) (by kernel_rfl) (fun _ _ _ h => h) (Or.inl ⟨by rfl, ?hy12⟩) (by assumption) ?re12
              case hy12 =>
                intro w hSw
                (try dsimp only at hSw)
                go_simp
                (try with_reducible rfl)
              try simp only [Act.put, List.setIfInBounds_toArray, List.set_cons_zero, List.set_cons_succ, List.getElem_toArray, List.getElem_cons_succ, List.getElem_cons_zero]
              refine wpAnyH_ready (rs := [1, 13]) (by kernel_rfl) (by simp) ?_
              refine AllReadyH.cons rfl (fun K hK => ?ba31) (AllReadyH.cons rfl (fun K hK => ?bb31) AllReadyH.nil)
              case ba31 =>
                go_simp
                refine hK.out _ _ ?ka31 (fun hHeld => ?ra31)
                case ka31 => exact HSW.out _ (Below.refl wr.heap.size wr).drew
                clear hK K
                try simp only [Act.put, List.setIfInBounds_toArray, List.set_cons_zero, List.set_cons_succ, List.getElem_toArray, List.getElem_cons_succ, List.getElem_cons_zero]
                refine wpAnyH_ready (rs := [13]) (by kernel_rfl) (by simp) ?_
                refine AllReadyH.cons rfl (fun K hK => ?st19) AllReadyH.nil
                go_simp
                go_at_call 84
                refine (HKj.out _ (by exact HBw3.out.drew)).mono ?_
                rintro e w4 ⟨rfl, hb4⟩
                have HB4 := Lib.hid (undrew hb4)
                have HB4a := Lib.hid (HB4.out.later (Below.new w4 (.cells #[.string cell] 9)))
                have HRA := Lib.hid (Own.own_later hO.out HB4a.out)
                have hsz4 := HB4.out.size
                have px4 := (Blk.later hX.out HB4.out zx).cell 0
                simp at px4
                have zx4 := (Blk.later hX.out HB4.out zx).lt
                have zx5 := Nat.lt_succ_of_lt zx4
                clear hb4
                refine hK.out _ _ ?ke19 (fun hHeld => ?rs19)
                case ke19 => exact HSW.out _ HB4.out
                clear hK K
                try simp only [Act.put, List.setIfInBounds_toArray, List.set_cons_zero, List.set_cons_succ, List.getElem_toArray, List.getElem_cons_succ, List.getElem_cons_zero]
                refine wpAnyH_take (i := 14) (v := ?va13) rfl (by kernel_rfl) (by kernel_rfl) (by kernel_rfl) (fun _ _ _ h => h) (Or.inl ⟨by rfl, ?hy13⟩) (by assumption) ?re13
                case hy13 =>
                  intro w hSw
                  (try dsimp only at hSw)
                  go_simp
                  (try with_reducible rfl)
                try simp only [Act.put, List.setIfInBounds_toArray, List.set_cons_zero, List.set_cons_succ, List.getElem_toArray, List.getElem_cons_succ, List.getElem_cons_zero]
                refine wpAnyH_take (i := 15) (v := ?va14) rfl (by kernel_rfl) (by kernel_rfl) (by kernel_rfl) (fun _ _ _ h => h) (Or.inl ⟨by rfl, ?hy14⟩) (by assumption) ?re14
                case hy14 =>
                  intro w hSw
                  (try dsimp only at hSw)
                  go_simp
                  (try with_reducible rfl)
                try simp only [Act.put, List.setIfInBounds_toArray, List.set_cons_zero, List.set_cons_succ, List.getElem_toArray, List.getElem_cons_succ, List.getElem_cons_zero]
                refine wpAnyH_ready (rs := [16]) (by kernel_rfl) (by simp) ?_
                refine AllReadyH.cons rfl (fun K hK => ?st18) AllReadyH.nil
                go_simp
                refine hK.out _ _ ?ke18 (fun hHeld => ?rs18)
                case ke18 => exact HSW.out _ HB4a.out
                clear hK K
                try simp only [Act.put, List.setIfInBounds_toArray, List.set_cons_zero, List.set_cons_succ, List.getElem_toArray, List.getElem_cons_succ, List.getElem_cons_zero]
                refine wpAnyH_ready (rs := [17]) (by kernel_rfl) (by simp) ?_
                refine AllReadyH.cons rfl (fun K hK => ?st17) AllReadyH.nil
                refine step_append_lies _ (by rfl) _ _ _ (by rfl) (W2.heap.size + 1) 9 j0 _ 1 16 Tryz.underlying25 hj hk0 hk1 hk2 rfl (by omega) (.slice A4 t c4) t (XS.map Value.string) (by rfl) (by exact HRA.out) ⟨w4.heap.size, 0, none⟩ 1 1 [.string cell] (by rfl) (by rfl) (by exact cells_newN w4 #[.string cell] _) (by simp [Value.oneCell']) (by omega) (by unfold maxLen; omega) (by omega) (by simp; omega) (w4.heap.size + 1) (by simp) ?_
                intro gg cap' w5 hown5 hgrow5 hat hlt2
                have HOW := Lib.hid hown5
                have HGR := Lib.hid hgrow5
                have HBG := Lib.hid (((Blk.later hX.out HB4.out zx).alloc (.cells #[.string cell] 9)).grown hgrow5 (fun e => Own.own_blk_ne hO.out hX.out (by decide) e.symm))
                have p5 := HBG.out.cell
                have f5 := HBG.out.frozen
                have z5 := HBG.out.lt
                have HB5 : Hid (Below W2.heap.size wr w5) := ((HB4a.out.mono (by omega)).grown hgrow5 (by simp; omega) (fun g hg => by have := (World.ownsRow.lt hO.out g hg).1; omega))
                clear hown5 hgrow5
                refine hK.out _ _ ?ke17 (fun hHeld => ?rs17)
                case ke17 => exact HSR.out _ HB5.out
                clear hK K
                try simp only [Act.put, List.setIfInBounds_toArray, List.set_cons_zero, List.set_cons_succ, List.getElem_toArray, List.getElem_cons_succ, List.getElem_cons_zero]
                refine wpAnyH_take (i := 18) (v := ?va15) rfl (by kernel_rfl) (by kernel_rfl) (by kernel_rfl) (fun _ _ _ h => h) (Or.inl ⟨by rfl, ?hy15⟩) (by assumption) ?re15
                case hy15 =>
                  intro w hSw
                  (try dsimp only at hSw)
                  go_simp
                  (try with_reducible rfl)
                try simp only [Act.put, List.setIfInBounds_toArray, List.set_cons_zero, List.set_cons_succ, List.getElem_toArray, List.getElem_cons_succ, List.getElem_cons_zero]
                refine wpAnyH_ready (rs := [19]) (by kernel_rfl) (by simp) ?_
                refine AllReadyH.cons rfl (fun K hK => ?st16) AllReadyH.nil
                go_simp
                refine hK.out _ _ ?ke16 (fun hHeld => ?rs16)
                case ke16 => exact HSR.out _ (HB5.out.setCell (p := ⟨W2.heap.size, 0, none⟩) (Nat.le_refl _) _)
                clear hK K
                try simp only [Act.put, List.setIfInBounds_toArray, List.set_cons_zero, List.set_cons_succ, List.getElem_toArray, List.getElem_cons_succ, List.getElem_cons_zero]
                refine wpAnyH_done (by kernel_rfl) ?_ _
                as_aux_lemma =>
                  have HX5 := Lib.hid (HBG.out.set_ 0 (.slice (some ⟨gg, 0, none⟩) (t + 1) cap'))
                  have hgl := (World.ownsRow.lt HOW.out gg rfl).1
                  have HO5 : Hid ((w5.setCell ⟨W2.heap.size, 0, none⟩ (.slice (some ⟨gg, 0, none⟩) (t + 1) cap')).ownsRow (W2.heap.size + 1) 9 1 (.slice (some ⟨gg, 0, none⟩) (t + 1) cap') (t + 1) (((SEL.take (t + 1)).map fun c => lrow.getD (placeI b.cols c).toNat ByteArray.empty).map Value.string)) := by
                    have h := World.ownsRow.kept HOW.out (row := some W2.heap.size) (Own.grown_set w5 W2.heap.size 0 (.slice (some ⟨gg, 0, none⟩) (t + 1) cap')) (.inr (by simp [Value.ownBlock]; omega))
                    unfold Hid
                    rw [HMS.out, List.map_append]
                    exact h
                  have HB6 : Hid (Below W2.heap.size W2 (w5.setCell ⟨W2.heap.size, 0, none⟩ (.slice (some ⟨gg, 0, none⟩) (t + 1) cap'))) := (hB3.out.trans HB5.out).setCell (p := ⟨W2.heap.size, 0, none⟩) (Nat.le_refl _) _
                  clear HBG HOW HGR HB5 HB4 HB4a HRA p1 p2' p3 p4 px p5 f5 z5
                  go_wp2_with fail
                  go_roundw
                  case rel => exact ⟨t + 1, some ⟨gg, 0, none⟩, cap', by omega, by go_num, by have h := HX5.out; unfold Hid; simpa using h, HO5.out, HB6.out⟩
                  case measure => simp [intOf]; omega
              case bb31 =>
                go_simp
                go_at_call 84
                refine (HKj.out _ (by exact HBw3.out.drew)).mono ?_
                rintro e w4 ⟨rfl, hb4⟩
                have HB4 := Lib.hid (undrew hb4)
                have HB4a := Lib.hid (HB4.out.later (Below.new w4 (.cells #[.string cell] 9)))
                have HRA := Lib.hid (Own.own_later hO.out HB4a.out)
                have hsz4 := HB4.out.size
                have px4 := (Blk.later hX.out HB4.out zx).cell 0
                simp at px4
                have zx4 := (Blk.later hX.out HB4.out zx).lt
                have zx5 := Nat.lt_succ_of_lt zx4
                clear hb4
                refine hK.out _ _ ?kb31 (fun hHeld => ?rb31)
                case kb31 => exact HSW.out _ HB4.out
                clear hK K
                try simp only [Act.put, List.setIfInBounds_toArray, List.set_cons_zero, List.set_cons_succ, List.getElem_toArray, List.getElem_cons_succ, List.getElem_cons_zero]
                refine wpAnyH_take (i := 14) (v := ?va20) rfl (by kernel_rfl) (by kernel_rfl) (by kernel_rfl) (fun _ _ _ h => h) (Or.inl ⟨by rfl, ?hy20⟩) (by assumption) ?re20
                case hy20 =>
                  intro w hSw
                  (try dsimp only at hSw)
                  go_simp
                  (try with_reducible rfl)
                try simp only [Act.put, List.setIfInBounds_toArray, List.set_cons_zero, List.set_cons_succ, List.getElem_toArray, List.getElem_cons_succ, List.getElem_cons_zero]
                refine wpAnyH_take (i := 15) (v := ?va21) rfl (by kernel_rfl) (by kernel_rfl) (by kernel_rfl) (fun _ _ _ h => h) (Or.inl ⟨by rfl, ?hy21⟩) (by assumption) ?re21
                case hy21 =>
                  intro w hSw
                  (try dsimp only at hSw)
                  go_simp
                  (try with_reducible rfl)
                try simp only [Act.put, List.setIfInBounds_toArray, List.set_cons_zero, List.set_cons_succ, List.getElem_toArray, List.getElem_cons_succ, List.getElem_cons_zero]
                refine wpAnyH_ready (rs := [1, 16]) (by kernel_rfl) (by simp) ?_
                refine AllReadyH.cons rfl (fun K hK => ?ba30) (AllReadyH.cons rfl (fun K hK => ?bb30) AllReadyH.nil)
                case ba30 =>
                  go_simp
                  refine hK.out _ _ ?ka30 (fun hHeld => ?ra30)
                  case ka30 => exact HSW.out _ HB4.out
                  clear hK K
                  try simp only [Act.put, List.setIfInBounds_toArray, List.set_cons_zero, List.set_cons_succ, List.getElem_toArray, List.getElem_cons_succ, List.getElem_cons_zero]
                  refine wpAnyH_ready (rs := [16]) (by kernel_rfl) (by simp) ?_
                  refine AllReadyH.cons rfl (fun K hK => ?st25) AllReadyH.nil
                  go_simp
                  refine hK.out _ _ ?ke25 (fun hHeld => ?rs25)
                  case ke25 => exact HSW.out _ HB4a.out
                  clear hK K
                  try simp only [Act.put, List.setIfInBounds_toArray, List.set_cons_zero, List.set_cons_succ, List.getElem_toArray, List.getElem_cons_succ, List.getElem_cons_zero]
                  refine wpAnyH_ready (rs := [17]) (by kernel_rfl) (by simp) ?_
                  refine AllReadyH.cons rfl (fun K hK => ?st24) AllReadyH.nil
                  refine step_append_lies _ (by rfl) _ _ _ (by rfl) (W2.heap.size + 1) 9 j0 _ 1 16 Tryz.underlying25 hj hk0 hk1 hk2 rfl (by omega) (.slice A4 t c4) t (XS.map Value.string) (by rfl) (by exact HRA.out) ⟨w4.heap.size, 0, none⟩ 1 1 [.string cell] (by rfl) (by rfl) (by exact cells_newN w4 #[.string cell] _) (by simp [Value.oneCell']) (by omega) (by unfold maxLen; omega) (by omega) (by simp; omega) (w4.heap.size + 1) (by simp) ?_
                  intro gg cap' w5 hown5 hgrow5 hat hlt2
                  have HOW := Lib.hid hown5
                  have HGR := Lib.hid hgrow5
                  have HBG := Lib.hid (((Blk.later hX.out HB4.out zx).alloc (.cells #[.string cell] 9)).grown hgrow5 (fun e => Own.own_blk_ne hO.out hX.out (by decide) e.symm))
                  have p5 := HBG.out.cell
                  have f5 := HBG.out.frozen
                  have z5 := HBG.out.lt
                  have HB5 : Hid (Below W2.heap.size wr w5) := ((HB4a.out.mono (by omega)).grown hgrow5 (by simp; omega) (fun g hg => by have := (World.ownsRow.lt hO.out g hg).1; omega))
                  clear hown5 hgrow5
                  refine hK.out _ _ ?ke24 (fun hHeld => ?rs24)
                  case ke24 => exact HSR.out _ HB5.out
                  clear hK K
                  try simp only [Act.put, List.setIfInBounds_toArray, List.set_cons_zero, List.set_cons_succ, List.getElem_toArray, List.getElem_cons_succ, List.getElem_cons_zero]
                  refine wpAnyH_take (i := 18) (v := ?va22) rfl (by kernel_rfl) (by kernel_rfl) (by kernel_rfl) (fun _ _ _ h => h) (Or.inl ⟨by rfl, ?hy22⟩) (by assumption) ?re22
                  case hy22 =>
                    intro w hSw
                    (try dsimp only at hSw)
                    go_simp
                    (try with_reducible rfl)
                  try simp only [Act.put, List.setIfInBounds_toArray, List.set_cons_zero, List.set_cons_succ, List.getElem_toArray, List.getElem_cons_succ, List.getElem_cons_zero]
                  refine wpAnyH_ready (rs := [19]) (by kernel_rfl) (by simp) ?_
                  refine AllReadyH.cons rfl (fun K hK => ?st23) AllReadyH.nil
                  go_simp
                  refine hK.out _ _ ?ke23 (fun hHeld => ?rs23)
                  case ke23 => exact HSR.out _ (HB5.out.setCell (p := ⟨W2.heap.size, 0, none⟩) (Nat.le_refl _) _)
                  clear hK K
                  try simp only [Act.put, List.setIfInBounds_toArray, List.set_cons_zero, List.set_cons_succ, List.getElem_toArray, List.getElem_cons_succ, List.getElem_cons_zero]
                  refine wpAnyH_done (by kernel_rfl) ?_ _
                  as_aux_lemma =>
                    have HX5 := Lib.hid (HBG.out.set_ 0 (.slice (some ⟨gg, 0, none⟩) (t + 1) cap'))
                    have hgl := (World.ownsRow.lt HOW.out gg rfl).1
                    have HO5 : Hid ((w5.setCell ⟨W2.heap.size, 0, none⟩ (.slice (some ⟨gg, 0, none⟩) (t + 1) cap')).ownsRow (W2.heap.size + 1) 9 1 (.slice (some ⟨gg, 0, none⟩) (t + 1) cap') (t + 1) (((SEL.take (t + 1)).map fun c => lrow.getD (placeI b.cols c).toNat ByteArray.empty).map Value.string)) := by
                      have h := World.ownsRow.kept HOW.out (row := some W2.heap.size) (Own.grown_set w5 W2.heap.size 0 (.slice (some ⟨gg, 0, none⟩) (t + 1) cap')) (.inr (by simp [Value.ownBlock]; omega))
                      unfold Hid
                      rw [HMS.out, List.map_append]
                      exact h
                    have HB6 : Hid (Below W2.heap.size W2 (w5.setCell ⟨W2.heap.size, 0, none⟩ (.slice (some ⟨gg, 0, none⟩) (t + 1) cap'))) := (hB3.out.trans HB5.out).setCell (p := ⟨W2.heap.size, 0, none⟩) (Nat.le_refl _) _
                    clear HBG HOW HGR HB5 HB4 HB4a HRA p1 p2' p3 p4 px p5 f5 z5
                    go_wp2_with fail
                    go_roundw
                    case rel => exact ⟨t + 1, some ⟨gg, 0, none⟩, cap', by omega, by go_num, by have h := HX5.out; unfold Hid; simpa using h, HO5.out, HB6.out⟩
                    case measure => simp [intOf]; omega
                case bb30 =>
                  go_simp
                  refine hK.out _ _ ?kb30 (fun hHeld => ?rb30)
                  case kb30 => exact HSW.out _ HB4a.out
                  clear hK K
                  try simp only [Act.put, List.setIfInBounds_toArray, List.set_cons_zero, List.set_cons_succ, List.getElem_toArray, List.getElem_cons_succ, List.getElem_cons_zero]
                  refine wpAnyH_ready (rs := [1]) (by kernel_rfl) (by simp) ?_
                  refine AllReadyH.cons rfl (fun K hK => ?st29) AllReadyH.nil
                  go_simp
                  refine hK.out _ _ ?ke29 (fun hHeld => ?rs29)
                  case ke29 => exact HSW.out _ HB4a.out
                  clear hK K
                  try simp only [Act.put, List.setIfInBounds_toArray, List.set_cons_zero, List.set_cons_succ, List.getElem_toArray, List.getElem_cons_succ, List.getElem_cons_zero]
                  refine wpAnyH_ready (rs := [17]) (by kernel_rfl) (by simp) ?_
                  refine AllReadyH.cons rfl (fun K hK => ?st28) AllReadyH.nil
                  refine step_append_lies _ (by rfl) _ _ _ (by rfl) (W2.heap.size + 1) 9 j0 _ 1 16 Tryz.underlying25 hj hk0 hk1 hk2 rfl (by omega) (.slice A4 t c4) t (XS.map Value.string) (by rfl) (by exact HRA.out) ⟨w4.heap.size, 0, none⟩ 1 1 [.string cell] (by rfl) (by rfl) (by exact cells_newN w4 #[.string cell] _) (by simp [Value.oneCell']) (by omega) (by unfold maxLen; omega) (by omega) (by simp; omega) (w4.heap.size + 1) (by simp) ?_
                  intro gg cap' w5 hown5 hgrow5 hat hlt2
                  have HOW := Lib.hid hown5
                  have HGR := Lib.hid hgrow5
                  have HBG := Lib.hid (((Blk.later hX.out HB4.out zx).alloc (.cells #[.string cell] 9)).grown hgrow5 (fun e => Own.own_blk_ne hO.out hX.out (by decide) e.symm))
                  have p5 := HBG.out.cell
                  have f5 := HBG.out.frozen
                  have z5 := HBG.out.lt
                  have HB5 : Hid (Below W2.heap.size wr w5) := ((HB4a.out.mono (by omega)).grown hgrow5 (by simp; omega) (fun g hg => by have := (World.ownsRow.lt hO.out g hg).1; omega))
                  clear hown5 hgrow5
                  refine hK.out _ _ ?ke28 (fun hHeld => ?rs28)
                  case ke28 => exact HSR.out _ HB5.out
                  clear hK K
                  try simp only [Act.put, List.setIfInBounds_toArray, List.set_cons_zero, List.set_cons_succ, List.getElem_toArray, List.getElem_cons_succ, List.getElem_cons_zero]
                  refine wpAnyH_take (i := 18) (v := ?va26) rfl (by kernel_rfl) (by kernel_rfl) (by kernel_rfl) (fun _ _ _ h => h) (Or.inl ⟨by rfl, ?hy26⟩) (by assumption) ?re26
                  case hy26 =>
                    intro w hSw
                    (try dsimp only at hSw)
                    go_simp
                    (try with_reducible rfl)
                  try simp only [Act.put, List.setIfInBounds_toArray, List.set_cons_zero, List.set_cons_succ, List.getElem_toArray, List.getElem_cons_succ, List.getElem_cons_zero]
                  refine wpAnyH_ready (rs := [19]) (by kernel_rfl) (by simp) ?_
                  refine AllReadyH.cons rfl (fun K hK => ?st27) AllReadyH.nil
                  go_simp
                  refine hK.out _ _ ?ke27 (fun hHeld => ?rs27)
                  case ke27 => exact HSR.out _ (HB5.out.setCell (p := ⟨W2.heap.size, 0, none⟩) (Nat.le_refl _) _)
                  clear hK K
                  try simp only [Act.put, List.setIfInBounds_toArray, List.set_cons_zero, List.set_cons_succ, List.getElem_toArray, List.getElem_cons_succ, List.getElem_cons_zero]
                  refine wpAnyH_done (by kernel_rfl) ?_ _
                  as_aux_lemma =>
                    have HX5 := Lib.hid (HBG.out.set_ 0 (.slice (some ⟨gg, 0, none⟩) (t + 1) cap'))
                    have hgl := (World.ownsRow.lt HOW.out gg rfl).1
                    have HO5 : Hid ((w5.setCell ⟨W2.heap.size, 0, none⟩ (.slice (some ⟨gg, 0, none⟩) (t + 1) cap')).ownsRow (W2.heap.size + 1) 9 1 (.slice (some ⟨gg, 0, none⟩) (t + 1) cap') (t + 1) (((SEL.take (t + 1)).map fun c => lrow.getD (placeI b.cols c).toNat ByteArray.empty).map Value.string)) := by
                      have h := World.ownsRow.kept HOW.out (row := some W2.heap.size) (Own.grown_set w5 W2.heap.size 0 (.slice (some ⟨gg, 0, none⟩) (t + 1) cap')) (.inr (by simp [Value.ownBlock]; omega))
                      unfold Hid
                      rw [HMS.out, List.map_append]
                      exact h
                    have HB6 : Hid (Below W2.heap.size W2 (w5.setCell ⟨W2.heap.size, 0, none⟩ (.slice (some ⟨gg, 0, none⟩) (t + 1) cap'))) := (hB3.out.trans HB5.out).setCell (p := ⟨W2.heap.size, 0, none⟩) (Nat.le_refl _) _
                    clear HBG HOW HGR HB5 HB4 HB4a HRA p1 p2' p3 p4 px p5 f5 z5
                    go_wp2_with fail
                    go_roundw
                    case rel => exact ⟨t + 1, some ⟨gg, 0, none⟩, cap', by omega, by go_num, by have h := HX5.out; unfold Hid; simpa using h, HO5.out, HB6.out⟩
                    case measure => simp [intOf]; omega
            · obtain rfl : t = sn := by omega
              have hpl : SEL.take t = SEL := List.take_of_length_le (by rw [HSEL.out.1]; exact Nat.le_refl _)
              have hPB : ((SEL.take t).map fun c => lrow.getD (placeI b.cols c).toNat ByteArray.empty) = projB b.cols SEL lrow := by rw [hpl]; rfl
              have HSub : Hid (Own.SubO wr (W2.heap.size + 1) (.slice A4 t c4) (projB b.cols SEL lrow)) := by
                unfold Hid Own.SubO
                have h := hO.out
                rw [hPB] at h
                rw [show (projB b.cols SEL lrow).length = t by unfold projB; rw [List.length_map]; exact HSEL.out.1]
                exact h
              clear hpl hPB
              have px := hX.out.cell 0
              have zx := hX.out.lt
              simp at px
              obtain ⟨vs, hRW⟩ := hRI.out
              have HRW := Lib.hid hRW
              have HRW3 := Lib.hid (hRW.later hB3.out)
              have HAP := Lib.hid (Own.OwnL.fresh hRW HSub.out (Nat.le_succ _))
              have hrow : Hid (∀ oo, (wr.alloc oo).ownsRow W1.heap.size 90 1 _ acc.length (Own.flat rowK acc vs)) := fun oo => Own.own_later HRW3.out.row (Below.new _ _)
              have haql := haccl.out
              have hz12 := HB2.out.size
              have hz23 := hB3.out.size
              clear hRW
              rw [haql] at hrow
              go_wp2_with (at_builtin; refine wpList_append_own _ rfl (.tmp 103) (.tmp 105) 55 rfl W1.heap.size 90 i0 _ 1 24 Tryz.underlying55 hi hz0 hz1 hz2 rfl (by decide) _ q _ rfl (hrow.out _) ⟨_, 0, none⟩ 1 1 [.slice A4 t c4] rfl rfl ?m1 ?m2 ?m3 ?m4 ?m5 ?_)
              all_goals try (first | exact cells_atN _ #[.slice A4 t c4] _ _ (by simp) | (simp [Value.oneCell']; done) | (unfold maxLen; omega) | omega | (simp; omega))
              intro v1 w6 hown1 hg1 _
              have HN6 : Hid (RowsI w6 W1.heap.size v1 (acc ++ [projB b.cols SEL lrow])) := by
                have hX6 : Own.SubO (wr.alloc (.cells #[.slice A4 t c4] 90)) W1.heap.size (.slice A4 t c4) (projB b.cols SEL lrow) := Own.own_base (Own.own_later HSub.out (Below.new _ _)) (by omega)
                refine ⟨vs ++ [.slice A4 t c4], Own.OwnL.snoc (HRW3.out.later (Below.new wr (.cells #[.slice A4 t c4] 90))) hX6 HAP.out ?_ hg1 (by decide)⟩
                show w6.ownsRow W1.heap.size 90 1 v1 (acc.length + 1) (Own.flat rowK acc vs ++ [.slice A4 t c4])
                rw [haql]
                exact hown1
              have HB6 := Lib.hid (((HB2.out.trans (hB3.out.mono hz12)).later (Below.new wr (.cells #[.slice A4 t c4] 90))).grown hg1 (by simp; omega) (fun g hg' => ((hrow.out (.cells #[] 0)).lt g hg').1))
              have HE : Hid (acc ++ [projB b.cols SEL lrow] = ((cutB d.limit L).take (q + 1)).map (projB b.cols SEL)) := by unfold Hid; rw [HPr.out.1, HPr.out.2, hacc.out]
              clear hown1 hg1 px
              go_wp2_with fail
              go_roundw
              case rel => exact ⟨q + 1, acc ++ [projB b.cols SEL lrow], by omega, by go_num, HE.out, by unfold Hid; rw [List.length_append, haql]; rfl, HN6.out, HB6.out⟩
              case measure => simp [intOf]; omega
        · obtain rfl : q = K := by omega
          have HEnd : Hid (acc = madeB b d rs) := by
            unfold Hid
            rw [HMD2.out, hacc.out, List.take_of_length_le (by rw [← HKK.out]; exact Nat.le_refl _)]
          go_upto_region 14 with fail
          go_cut [74] (fun v wx => v = .bool false ∧ wx = W2)
          case first => as_aux_lemma =>
            by_cases hqm : q < m
            · have hL0 : d.limit ≠ 0 := fun e => by have h := HKd.out; rw [if_pos e] at h; omega
              have hqmz : (q : Int) < (m : Int) := by omega
              have hql : d.limit ≤ (q : Int) := by have h := HKd.out; rw [if_neg hL0] at h; omega
              have hle := int_beq hL0
              have hqd : decide ((q : Int) < d.limit) = false := by simp; omega
              go_wp2_with fail
              go_meet
              case rel => exact ⟨rfl, rfl⟩
            · have hqmz : (m : Int) ≤ (q : Int) := by omega
              have hqd : decide ((q : Int) < (m : Int)) = false := by simp; omega
              go_wp2_with fail
              go_meet
              case rel => exact ⟨rfl, rfl⟩
          case rest => as_aux_lemma =>
          obtain ⟨rfl, rfl⟩ := hcut
          obtain ⟨W2, rfl⟩ : ∃ W2, W2 = wc := ⟨wc, rfl⟩
          have HRE := Lib.hid ((hRI.out).base (show w.heap.size ≤ W1.heap.size by have h1 := HB.out.size; omega))
          have HBE := Lib.hid ((HBB.out.later HB.out).later HB2.out)
          go_wp2_with fail
          go_ret
          exact ⟨_, rfl, by rw [← HEnd.out]; exact HRE.out, HBE.out⟩
end Go.Proofs.YtalpafaflgddpaaGreatDoor

namespace Go.Proofs.YtalpafaflgddpaaGreatDoor
open Go.RowKit
set_option linter.unusedVariables false

def runB (fs : List NodeD) (b : TableD) (q : QueryD) : Int × List (List ByteArray) :=
  if (treeB fs && fitsB b q) = true then (if (rowsT b.cols (rowsN b.glob fs)).1 = 0 then (0, madeB b q (rowsT b.cols (rowsN b.glob fs)).2) else ((rowsT b.cols (rowsN b.glob fs)).1, [])) else (1, [])
theorem rowsI_rd {w : World} {base : Nat} {v : Value} {rs : List (List ByteArray)} (h : RowsI w base v rs) : ∃ A cap, v = .slice A rs.length cap ∧ rs.length ≤ cap ∧ RowsRd w w.heap.size A rs.length rs := by
  obtain ⟨vs, h⟩ := h
  obtain ⟨A, cap, rfl, hc, _, hA⟩ := Own.own_slice h.row
  refine ⟨A, cap, rfl, hc, rfl, fun hn => ?_⟩
  obtain ⟨g, rfl, hg, _⟩ := hA hn
  refine ⟨g, 0, rfl, hg, fun j hj => ?_⟩
  have h0 := h.cellAt rfl j 0 hj (by decide)
  obtain ⟨A1, cap1, e1, hc1, hs1⟩ := (h.subs j hj).strs
  refine ⟨_, ?_, A1, _, cap1, e1, hs1, hc1⟩
  rw [Nat.zero_add]
  have e : j * rowK.size + 0 = j := by show j * 1 + 0 = j; omega
  rw [e] at h0
  exact h0
theorem unp_row {cols key val : ByteArray} {cs : List ByteArray} {x : List ByteArray} (h : unpackB cs key val = some x) : rowB cs x = true := by
  unfold unpackB at h
  split at h
  · simp at h
  · next hh =>
    simp only [Option.some.injEq] at h
    subst h
    simp only [Bool.or_eq_true, not_or, Bool.not_eq_true', Bool.not_eq_false] at hh
    exact hh.2
theorem unpAll_mem {f : NodeD → Option (List ByteArray)} : ∀ {l : List NodeD} {rs : List (List ByteArray)}, unpAll f l = some rs → rs.length = l.length ∧ ∀ r ∈ rs, ∃ d, f d = some r
  | [], rs, h => by
    simp only [unpAll, Option.some.injEq] at h
    subst h
    exact ⟨rfl, fun r hr => by simp at hr⟩
  | d :: t, rs, h => by
    unfold unpAll at h
    split at h
    · simp at h
    · next x hx =>
      cases hu : unpAll f t with
      | none => rw [hu] at h; simp at h
      | some ys =>
        rw [hu] at h
        simp only [Option.map_some, Option.some.injEq] at h
        subst h
        obtain ⟨h1, h2⟩ := unpAll_mem hu
        refine ⟨by simp [h1], fun r hr => ?_⟩
        rcases List.mem_cons.1 hr with h3 | h3
        · subst h3; exact ⟨d, hx⟩
        · exact h2 r h3
theorem cellB_small {s : ByteArray} (h : cellB s = true) : s.size ≤ 1048576 := by
  unfold cellB at h
  simp only [Bool.and_eq_true, decide_eq_true_eq] at h
  omega
theorem rowB_small {cs r : List ByteArray} (hc : cs.length ≤ 5) (h : rowB cs r = true) : smallR r ∧ r.length = cs.length := by
  unfold rowB at h
  simp only [Bool.and_eq_true, decide_eq_true_eq, List.all_eq_true] at h
  exact ⟨⟨by omega, fun s hs => cellB_small (h.2.2 s hs)⟩, h.1⟩
theorem rowsT_zero {cs : List ByteArray} {ns : List NodeD} (hc : cs.length ≤ 5) (h : (rowsT cs ns).1 = 0) : (rowsT cs ns).2.length ≤ 24 ∧ ∀ r ∈ (rowsT cs ns).2, smallR r ∧ r.length = cs.length := by
  unfold rowsT at h ⊢
  split
  · exact ⟨by simp, fun r hr => by simp at hr⟩
  · next hl =>
    cases hu : unpAll (kvOf cs) ns with
    | none => exact ⟨by simp, fun r hr => by simp at hr⟩
    | some rs =>
      obtain ⟨h1, h2⟩ := unpAll_mem hu
      refine ⟨by simp only []; omega, fun r hr => ?_⟩
      obtain ⟨d, hd⟩ := h2 r hr
      exact rowB_small hc (unp_row (cols := ByteArray.empty) hd)
theorem fits_facts {b : TableD} {q : QueryD} (h : fitsB b q = true) : (0 < b.cols.length ∧ b.cols.length ≤ 5) ∧ (∀ c ∈ q.wher, 0 ≤ placeI b.cols c.col) ∧ (q.order ≠ ⟨#[]⟩ → 0 ≤ placeI b.cols q.order) ∧ (∀ c ∈ q.cols, 0 ≤ placeI b.cols c) ∧ 0 ≤ q.limit ∧ q.limit ≤ 24 := by
  unfold fitsB at h
  simp only [Bool.and_eq_true] at h
  obtain ⟨ht, hq, _, ho, hc, hw⟩ := h
  have hin : ∀ x, Go.Proofs.YtalpafaflgddpaaGreatDoor.inP b.cols x = true → 0 ≤ placeI b.cols x := fun x hx => by
    unfold Go.Proofs.YtalpafaflgddpaaGreatDoor.inP at hx
    exact of_decide_eq_true hx
  unfold tabB at ht
  simp only [Bool.and_eq_true] at ht
  obtain ⟨_, _, t1, t2, _⟩ := ht
  unfold queryB at hq
  simp only [Bool.and_eq_true] at hq
  obtain ⟨_, _, _, _, _, ql, _⟩ := hq
  unfold inB at ql
  simp only [Bool.and_eq_true] at ql
  refine ⟨⟨of_decide_eq_true t1, of_decide_eq_true t2⟩, fun c hcm => hin _ (List.all_eq_true.1 hw c hcm), fun hne => ?_, fun c hcm => hin _ (List.all_eq_true.1 hc c hcm), of_decide_eq_true ql.1, of_decide_eq_true ql.2⟩
  rw [Bool.or_eq_true] at ho
  rcases ho with h1 | h1
  · exact absurd (of_decide_eq_true h1) hne
  · exact hin _ h1
end Go.Proofs.YtalpafaflgddpaaGreatDoor

namespace Go.Proofs.YtalpafaflgddpaaGreatDoor
open Go.RowKit
set_option linter.unusedVariables false

set_option maxRecDepth 100000 in
set_option maxHeartbeats 4000000 in
theorem specRunQuery_any (A : Option Addr) (n c : Nat) (b0 b1 b2 b3 c0 c1 c2 c3 c4 c5 : Value) (fs : List NodeD) (b : TableD) (d : QueryD) (w : World) (ht : Nodes w w.heap.size A n fs) (hb : TableR w w.heap.size b0 b1 b2 b3 b) (h : QueryR w w.heap.size c0 c1 c2 c3 c4 c5 d) (hts : smallNs fs) (hbs : b.small) (hs : d.small) :
    Calls Tryz.prog 19 #[.agg #[.slice A n c], .agg #[b0, b1, b2, b3], .agg #[c0, c1, c2, c3, c4, c5]] w (RowsPost (runB fs b d) w) := by
  have HK1 := Lib.hid (fun W (hW : Below w.heap.size w W) => specTreeOk_any A n c fs W (ht.later hW) hts)
  have HK2 := Lib.hid (fun W (hW : Below w.heap.size w W) => l30Fits_any b0 b1 b2 b3 c0 c1 c2 c3 c4 c5 b d W (hb.later hW) (h.later hW) hbs hs)
  have HK3 : Hid (treeB fs = true → fitsB b d = true → ∀ W (hW : Below w.heap.size w W), Calls Tryz.prog 52 #[.agg #[.slice A n c], .agg #[b0, b1, b2, b3]] W (RowsPost (rowsT b.cols (rowsN b.glob fs)) W)) := fun h1 h2 W hW => by
    obtain ⟨⟨f1, f2⟩, _⟩ := fits_facts h2
    exact l29Rows_any A n c b0 b1 b2 b3 fs b W (ht.later hW) (hb.later hW) hts h1 f1 f2
  have HK4 : Hid (fitsB b d = true → (rowsT b.cols (rowsN b.glob fs)).1 = 0 → ∀ W (hW : Below w.heap.size w W) v, RowsI W w.heap.size v (rowsT b.cols (rowsN b.glob fs)).2 → ∃ A4 n4 cap4, v = .slice A4 n4 cap4 ∧ Calls Tryz.prog 53 #[.agg #[b0, b1, b2, b3], .agg #[c0, c1, c2, c3, c4, c5], .slice A4 n4 cap4] W (MadePost (madeB b d (rowsT b.cols (rowsN b.glob fs)).2) W)) := fun h2 h3 W hW v hv => by
    obtain ⟨⟨f1, f2⟩, f3, f4, f4', f5, f6⟩ := fits_facts h2
    obtain ⟨g1, g2⟩ := rowsT_zero f2 h3
    obtain ⟨A4, cap4, rfl, _, hrd⟩ := rowsI_rd hv
    exact ⟨A4, _, cap4, rfl, l30Made_any A4 _ cap4 b0 b1 b2 b3 c0 c1 c2 c3 c4 c5 b d _ W (hb.later hW) (h.later hW) hrd hbs hs (fun r hr => (g2 r hr).1) g1 f3 f4 f4' f5 (fun r hr => (g2 r hr).2)⟩
  have HR : Hid (runB fs b d = if (treeB fs && fitsB b d) = true then (if (rowsT b.cols (rowsN b.glob fs)).1 = 0 then (0, madeB b d (rowsT b.cols (rowsN b.glob fs)).2) else ((rowsT b.cols (rowsN b.glob fs)).1, [])) else (1, [])) := rfl
  generalize treeB fs = xt at *
  generalize fitsB b d = xf at *
  obtain ⟨rfl, rfl, ⟨A2, n2, p2, rfl, s2, k2⟩, ⟨A3, n3, p3, rfl, s3, k3⟩⟩ := hb
  obtain ⟨rfl, ⟨B1, m1, q1, rfl, t1, l1⟩, ⟨B2, m2, q2, rfl, t2, l2⟩, rfl, rfl, rfl⟩ := h
  clear s2 s3 t1 t2 ht hts hbs hs
  generalize runB fs b d = R at *
  generalize hrt : rowsT b.cols (rowsN b.glob fs) = rt at *
  clear hrt
  generalize hmd : madeB b d rt.2 = md at *
  clear hmd
  generalize b.name = nm at *
  generalize b.glob = gl at *
  generalize d.table = tb at *
  generalize d.order = od at *
  generalize d.desc = ds at *
  generalize d.limit = lm at *
  have HB0 := Lib.hid (below_new3 w (.cells #[.slice A n c] 41) (.cells #[.string nm, .string gl, .slice A2 n2 p2, .slice A3 n3 p3] 43) (.cells #[.string tb, .slice B1 m1 q1, .slice B2 m2 q2, .string od, .bool ds, .int .i64 lm] 47))
  have HX0 := Lib.hid (heap_new0 w (.cells #[.slice A n c] 41) (.cells #[.string nm, .string gl, .slice A2 n2 p2, .slice A3 n3 p3] 43) (.cells #[.string tb, .slice B1 m1 q1, .slice B2 m2 q2, .string od, .bool ds, .int .i64 lm] 47))
  have HX1 := Lib.hid (heap_new1 w (.cells #[.slice A n c] 41) (.cells #[.string nm, .string gl, .slice A2 n2 p2, .slice A3 n3 p3] 43) (.cells #[.string tb, .slice B1 m1 q1, .slice B2 m2 q2, .string od, .bool ds, .int .i64 lm] 47))
  have HX2 := Lib.hid (heap_new2 w (.cells #[.slice A n c] 41) (.cells #[.string nm, .string gl, .slice A2 n2 p2, .slice A3 n3 p3] 43) (.cells #[.string tb, .slice B1 m1 q1, .slice B2 m2 q2, .string od, .bool ds, .int .i64 lm] 47))
  go_enter Tryz.func19, Tryz.ntmps19
  go_wp2_with fail
  refine (HK1.out _ HB0.out).mono ?_
  rintro e w1 ⟨rfl, hb1⟩
  have HB1 := Lib.hid (HB0.out.later hb1)
  have HY0 := Lib.hid (Blk.later HX0.out hb1 (by first | (simp; done) | (simp; omega)))
  have HY1 := Lib.hid (Blk.later HX1.out hb1 (by first | (simp; done) | (simp; omega)))
  have HY2 := Lib.hid (Blk.later HX2.out hb1 (by first | (simp; done) | (simp; omega)))
  clear hb1 HX0 HX1 HX2
  cases xt
  · have HE : Hid (R = (1, [])) := by unfold Hid; rw [HR.out]; rfl
    go_wp2_with fail
    refine bodyPost_ret (v := .tuple #[.slice (some ⟨_, 0, none⟩) 0 0, .int .i64 _]) (by simp [results, Tryz.results19, go_sem]; try exact ⟨rfl, rfl⟩) rfl ?_
    exact ⟨_, by rw [HE.out], by rw [HE.out]; exact rowsI_lit _ _ HB1.out.size, HB1.out.later (Below.new _ _)⟩
  have p0 := HY0.out.cell
  have p1 := HY1.out.cell
  have p2' := HY2.out.cell
  have z2 := HY2.out.lt
  go_wp2_with fail
  refine (HK2.out _ HB1.out).mono ?_
  rintro e w2 ⟨rfl, hb2⟩
  have HB2 := Lib.hid (HB1.out.later hb2)
  have HZ0 := Lib.hid (HY0.out.later hb2 HY0.out.lt)
  have HZ1 := Lib.hid (HY1.out.later hb2 HY1.out.lt)
  have HZ2 := Lib.hid (HY2.out.later hb2 HY2.out.lt)
  clear hb2 p0 p1 p2' z2 HY0 HY1 HY2
  cases xf
  · have HE : Hid (R = (1, [])) := by unfold Hid; rw [HR.out]; rfl
    go_wp2_with fail
    refine bodyPost_ret (v := .tuple #[.slice (some ⟨_, 0, none⟩) 0 0, .int .i64 _]) (by simp [results, Tryz.results19, go_sem]; try exact ⟨rfl, rfl⟩) rfl ?_
    exact ⟨_, by rw [HE.out], by rw [HE.out]; exact rowsI_lit _ _ HB2.out.size, HB2.out.later (Below.new _ _)⟩
  have hRS : R = if rt.1 = 0 then (0, md) else (rt.1, []) := by rw [HR.out]; rfl
  have HRS := Lib.hid hRS
  have HK3' := Lib.hid (HK3.out (by first | rfl | trivial) (by first | rfl | trivial))
  have HK4' := Lib.hid (HK4.out (by first | rfl | trivial))
  clear hRS HR HK3 HK4
  have p0 := HZ0.out.cell
  have p1 := HZ1.out.cell
  have p2' := HZ2.out.cell
  go_wp2_with fail
  refine (HK3'.out _ HB2.out).mono ?_
  rintro e w3 ⟨v3, rfl, ho3, hb3⟩
  have HB3 := Lib.hid (HB2.out.later hb3)
  have HO3 := Lib.hid (ho3.base HB2.out.size)
  have HW1 := Lib.hid (HZ1.out.later hb3 HZ1.out.lt)
  have HW2 := Lib.hid (HZ2.out.later hb3 HZ2.out.lt)
  clear ho3 hb3 p0 p1 p2' HZ0 HZ1 HZ2 HK3' HK1 HK2
  have p1 := HW1.out.cell
  have p2' := HW2.out.cell
  obtain ⟨rc, rs⟩ := rt
  by_cases h0 : rc = 0
  · have HE : Hid (R = (0, md)) := by unfold Hid; rw [HRS.out, if_pos h0]
    obtain ⟨A4, n4, cap4, rfl, hk4⟩ := HK4'.out h0 _ HB3.out _ HO3.out
    have HM := Lib.hid hk4
    clear hk4 HK4' HRS HO3
    subst h0
    go_wp2_with fail
    refine HM.out.mono ?_
    rintro e w5 ⟨v5, rfl, ho5, hb5⟩
    have HO5 := Lib.hid (ho5.base HB3.out.size)
    have HB5 := Lib.hid (HB3.out.later hb5)
    obtain ⟨A5, cap5, rfl, _⟩ := rowsI_rd ho5
    clear ho5 hb5 p1 p2' HW1 HW2
    go_wp2_with fail
    refine bodyPost_ret (v := .tuple #[.slice A5 _ cap5, .int .i64 _]) (by simp [results, Tryz.results19, go_sem]; try exact ⟨rfl, rfl⟩) rfl ?_
    exact ⟨_, by rw [HE.out], by rw [HE.out]; exact HO5.out, HB5.out⟩
  · have HE : Hid (R = (rc, [])) := by unfold Hid; rw [HRS.out, if_neg h0]
    have i1 : (rc == 0) = false := by simp [h0]
    have i2 : (rc != 0) = true := by simp [h0]
    obtain ⟨A4, cap4, rfl, _⟩ := rowsI_rd HO3.out
    clear HK4' HRS HO3 p1 p2' HW1 HW2
    go_wp2_with fail
    refine bodyPost_ret (v := .tuple #[.slice (some ⟨_, 0, none⟩) 0 0, .int .i64 _]) (by simp [results, Tryz.results19, go_sem]; try exact ⟨rfl, rfl⟩) rfl ?_
    exact ⟨_, by rw [HE.out], by rw [HE.out]; exact rowsI_lit _ _ HB3.out.size, HB3.out.later (Below.new _ _)⟩
end Go.Proofs.YtalpafaflgddpaaGreatDoor

namespace Go.Proofs.YtalpafaflgddpaaGreatDoor
open Go.RowKit
set_option linter.unusedVariables false

set_option maxRecDepth 100000 in
set_option maxHeartbeats 4000000 in
theorem RunQuery_any (A : Option Addr) (n c : Nat) (b0 b1 b2 b3 c0 c1 c2 c3 c4 c5 : Value) (fs : List NodeD) (b : TableD) (d : QueryD) (w : World) (htab : tabT w) (ht : Nodes w w.heap.size A n fs) (hb : TableR w w.heap.size b0 b1 b2 b3 b) (h : QueryR w w.heap.size c0 c1 c2 c3 c4 c5 d) (hts : smallNs fs) (hbs : b.small) (hs : d.small) :
    Calls Tryz.prog 20 #[.agg #[.slice A n c], .agg #[b0, b1, b2, b3], .agg #[c0, c1, c2, c3, c4, c5]] w (RowsPost (runB fs b d) w) := by
  have HK1 := Lib.hid (fun W (hW : Below w.heap.size w W) => TreeOk_any A n c fs W (ht.later hW) (tab_later htab hW) hts)
  have HK2 := Lib.hid (fun W (hW : Below w.heap.size w W) => QueryFits_any b0 b1 b2 b3 c0 c1 c2 c3 c4 c5 b d W (hb.later hW) (h.later hW) hbs hs)
  have HK3 : Hid (treeB fs = true → fitsB b d = true → ∀ W (hW : Below w.heap.size w W), Calls Tryz.prog 55 #[.agg #[.slice A n c], .agg #[b0, b1, b2, b3]] W (RowsPost (rowsT b.cols (rowsN b.glob fs)) W)) := fun h1 h2 W hW => by
    obtain ⟨⟨f1, f2⟩, _⟩ := fits_facts h2
    exact rowsOf_any A n c b0 b1 b2 b3 fs b W (ht.later hW) (hb.later hW) hts h1 f1 f2
  have HK4 : Hid (fitsB b d = true → (rowsT b.cols (rowsN b.glob fs)).1 = 0 → ∀ W (hW : Below w.heap.size w W) v, RowsI W w.heap.size v (rowsT b.cols (rowsN b.glob fs)).2 → ∃ A4 n4 cap4, v = .slice A4 n4 cap4 ∧ Calls Tryz.prog 56 #[.agg #[b0, b1, b2, b3], .agg #[c0, c1, c2, c3, c4, c5], .slice A4 n4 cap4] W (MadePost (madeB b d (rowsT b.cols (rowsN b.glob fs)).2) W)) := fun h2 h3 W hW v hv => by
    obtain ⟨⟨f1, f2⟩, f3, f4, f4', f5, f6⟩ := fits_facts h2
    obtain ⟨g1, g2⟩ := rowsT_zero f2 h3
    obtain ⟨A4, cap4, rfl, _, hrd⟩ := rowsI_rd hv
    exact ⟨A4, _, cap4, rfl, result_any A4 _ cap4 b0 b1 b2 b3 c0 c1 c2 c3 c4 c5 b d _ W (tab_later htab hW) (hb.later hW) (h.later hW) hrd hbs hs (fun r hr => (g2 r hr).1) g1 f3 f4 f4' f5 f6 (fun r hr => (g2 r hr).2)⟩
  have HR : Hid (runB fs b d = if (treeB fs && fitsB b d) = true then (if (rowsT b.cols (rowsN b.glob fs)).1 = 0 then (0, madeB b d (rowsT b.cols (rowsN b.glob fs)).2) else ((rowsT b.cols (rowsN b.glob fs)).1, [])) else (1, [])) := rfl
  generalize treeB fs = xt at *
  generalize fitsB b d = xf at *
  obtain ⟨rfl, rfl, ⟨A2, n2, p2, rfl, s2, k2⟩, ⟨A3, n3, p3, rfl, s3, k3⟩⟩ := hb
  obtain ⟨rfl, ⟨B1, m1, q1, rfl, t1, l1⟩, ⟨B2, m2, q2, rfl, t2, l2⟩, rfl, rfl, rfl⟩ := h
  clear s2 s3 t1 t2 ht hts hbs hs htab
  generalize runB fs b d = R at *
  generalize hrt : rowsT b.cols (rowsN b.glob fs) = rt at *
  clear hrt
  generalize hmd : madeB b d rt.2 = md at *
  clear hmd
  generalize b.name = nm at *
  generalize b.glob = gl at *
  generalize d.table = tb at *
  generalize d.order = od at *
  generalize d.desc = ds at *
  generalize d.limit = lm at *
  have HB0 := Lib.hid (below_new3 w (.cells #[.slice A n c] 41) (.cells #[.string nm, .string gl, .slice A2 n2 p2, .slice A3 n3 p3] 43) (.cells #[.string tb, .slice B1 m1 q1, .slice B2 m2 q2, .string od, .bool ds, .int .i64 lm] 47))
  have HX0 := Lib.hid (heap_new0 w (.cells #[.slice A n c] 41) (.cells #[.string nm, .string gl, .slice A2 n2 p2, .slice A3 n3 p3] 43) (.cells #[.string tb, .slice B1 m1 q1, .slice B2 m2 q2, .string od, .bool ds, .int .i64 lm] 47))
  have HX1 := Lib.hid (heap_new1 w (.cells #[.slice A n c] 41) (.cells #[.string nm, .string gl, .slice A2 n2 p2, .slice A3 n3 p3] 43) (.cells #[.string tb, .slice B1 m1 q1, .slice B2 m2 q2, .string od, .bool ds, .int .i64 lm] 47))
  have HX2 := Lib.hid (heap_new2 w (.cells #[.slice A n c] 41) (.cells #[.string nm, .string gl, .slice A2 n2 p2, .slice A3 n3 p3] 43) (.cells #[.string tb, .slice B1 m1 q1, .slice B2 m2 q2, .string od, .bool ds, .int .i64 lm] 47))
  go_enter Tryz.func20, Tryz.ntmps20
  go_wp2_with fail
  refine (HK1.out _ HB0.out).mono ?_
  rintro e w1 ⟨rfl, hb1⟩
  have HB1 := Lib.hid (HB0.out.later hb1)
  have HY0 := Lib.hid (Blk.later HX0.out hb1 (by first | (simp; done) | (simp; omega)))
  have HY1 := Lib.hid (Blk.later HX1.out hb1 (by first | (simp; done) | (simp; omega)))
  have HY2 := Lib.hid (Blk.later HX2.out hb1 (by first | (simp; done) | (simp; omega)))
  clear hb1 HX0 HX1 HX2
  cases xt
  · have HE : Hid (R = (1, [])) := by unfold Hid; rw [HR.out]; rfl
    go_wp2_with fail
    refine bodyPost_ret (v := .tuple #[.slice none 0 0, .int .i64 _]) (by simp [results, Tryz.results20, go_sem]; try first | exact rfl | exact ⟨rfl, rfl⟩) rfl ?_
    exact ⟨_, by rw [HE.out], by rw [HE.out]; exact ⟨[], Own.OwnL.nil _ _ _⟩, HB1.out⟩
  have p0 := HY0.out.cell
  have p1 := HY1.out.cell
  have p2' := HY2.out.cell
  have z2 := HY2.out.lt
  go_wp2_with fail
  refine (HK2.out _ HB1.out).mono ?_
  rintro e w2 ⟨rfl, hb2⟩
  have HB2 := Lib.hid (HB1.out.later hb2)
  have HZ0 := Lib.hid (HY0.out.later hb2 HY0.out.lt)
  have HZ1 := Lib.hid (HY1.out.later hb2 HY1.out.lt)
  have HZ2 := Lib.hid (HY2.out.later hb2 HY2.out.lt)
  clear hb2 p0 p1 p2' z2 HY0 HY1 HY2
  cases xf
  · have HE : Hid (R = (1, [])) := by unfold Hid; rw [HR.out]; rfl
    go_wp2_with fail
    refine bodyPost_ret (v := .tuple #[.slice none 0 0, .int .i64 _]) (by simp [results, Tryz.results20, go_sem]; try first | exact rfl | exact ⟨rfl, rfl⟩) rfl ?_
    exact ⟨_, by rw [HE.out], by rw [HE.out]; exact ⟨[], Own.OwnL.nil _ _ _⟩, HB2.out⟩
  have hRS : R = if rt.1 = 0 then (0, md) else (rt.1, []) := by rw [HR.out]; rfl
  have HRS := Lib.hid hRS
  have HK3' := Lib.hid (HK3.out (by first | rfl | trivial) (by first | rfl | trivial))
  have HK4' := Lib.hid (HK4.out (by first | rfl | trivial))
  clear hRS HR HK3 HK4
  have p0 := HZ0.out.cell
  have p1 := HZ1.out.cell
  have p2' := HZ2.out.cell
  go_wp2_with fail
  refine (HK3'.out _ HB2.out).mono ?_
  rintro e w3 ⟨v3, rfl, ho3, hb3⟩
  have HB3 := Lib.hid (HB2.out.later hb3)
  have HO3 := Lib.hid (ho3.base HB2.out.size)
  have HW1 := Lib.hid (HZ1.out.later hb3 HZ1.out.lt)
  have HW2 := Lib.hid (HZ2.out.later hb3 HZ2.out.lt)
  clear ho3 hb3 p0 p1 p2' HZ0 HZ1 HZ2 HK3' HK1 HK2
  have p1 := HW1.out.cell
  have p2' := HW2.out.cell
  obtain ⟨rc, rs⟩ := rt
  by_cases h0 : rc = 0
  · have HE : Hid (R = (0, md)) := by unfold Hid; rw [HRS.out, if_pos h0]
    obtain ⟨A4, n4, cap4, rfl, hk4⟩ := HK4'.out h0 _ HB3.out _ HO3.out
    have HM := Lib.hid hk4
    clear hk4 HK4' HRS HO3
    subst h0
    go_wp2_with fail
    refine HM.out.mono ?_
    rintro e w5 ⟨v5, rfl, ho5, hb5⟩
    have HO5 := Lib.hid (ho5.base HB3.out.size)
    have HB5 := Lib.hid (HB3.out.later hb5)
    obtain ⟨A5, cap5, rfl, _⟩ := rowsI_rd ho5
    clear ho5 hb5 p1 p2' HW1 HW2
    go_wp2_with fail
    refine bodyPost_ret (v := .tuple #[.slice A5 _ cap5, .int .i64 _]) (by simp [results, Tryz.results20, go_sem]; try exact ⟨rfl, rfl⟩) rfl ?_
    exact ⟨_, by rw [HE.out], by rw [HE.out]; exact HO5.out, HB5.out⟩
  · have HE : Hid (R = (rc, [])) := by unfold Hid; rw [HRS.out, if_neg h0]
    have i1 : (rc == 0) = false := by simp [h0]
    have i2 : (rc != 0) = true := by simp [h0]
    obtain ⟨A4, cap4, rfl, _⟩ := rowsI_rd HO3.out
    clear HK4' HRS HO3 p1 p2' HW1 HW2
    go_wp2_with fail
    refine bodyPost_ret (v := .tuple #[.slice none 0 0, .int .i64 _]) (by simp [results, Tryz.results20, go_sem]; try first | exact rfl | exact ⟨rfl, rfl⟩) rfl ?_
    exact ⟨_, by rw [HE.out], by rw [HE.out]; exact ⟨[], Own.OwnL.nil _ _ _⟩, HB3.out⟩
end Go.Proofs.YtalpafaflgddpaaGreatDoor

namespace Go.Proofs.YtalpafaflgddpaaGreatDoor
open Go.RowKit Go.Proofs.YtalpafaflgddpaaGreatDoor.Own
set_option linter.unusedVariables false

theorem OwnL.keptG {α : Type} [Inhabited α] {K : Kind α} {w W W' : World} {base base' t n : Nat} {v v1 : Value} {fs : List α} {vs : List Value} {xs : List Value} (h : OwnL K w base t v fs vs) (hW : Below w.heap.size w W) (hg : W.grownBy W' v1.ownBlock) (h1 : w.ownsRow base' 9 1 v1 n xs) (hvs : ∀ u ∈ vs, u.ownBlock = none) (ht : t ≠ 9 := by decide) : OwnL K W' base t v fs vs :=
  ⟨h.len, kept_apart (own_later h.row hW) hg (apart_types h.row h1 ht), fun j hj => kept_apart (own_later (h.subs j hj) hW) hg (.inl (hvs _ (mem_of_getD _ _ _ (by rw [h.len]; exact hj)))), h.aprt⟩
theorem getD_set_d {α : Type} [Inhabited α] (l : List α) (j : Nat) (x : α) (h : j < l.length) : (l.set j x).getD j default = x := by rw [Own.getD_set_ _ _ _ _ _ h, if_pos rfl]

set_option maxRecDepth 100000 in
set_option maxHeartbeats 2000000 in
theorem markNodeS_any (base k : Nat) (P : Nat → Prop) (v : Value) (fs : List NodeD) (vs : List Value) (w : World) (h : OwnL nodeK w base 78 v fs vs) (hs : fs.length ≤ 1048576 ∧ ∀ d ∈ fs, d.subs.length ≤ 1048576) (hk : k ≤ 1048576) (hu : Own.inP P v) (hus : ∀ u ∈ vs, Own.inP P u) :
    Calls Tryz.prog 58 #[v, .int .i64 k] w fun e w' => ∃ m : Nat, e = .returned (.int .i64 m) ∧ m ≤ 2199023255552 ∧ Chg P w w' := by
  obtain ⟨A, cap, rfl, _, _, hA⟩ := own_slice h.row
  have HO := Lib.hid h
  have HVL := Lib.hid h.len
  have HS := Lib.hid hs.2
  have hn := hs.1
  have HU := Lib.hid hu
  have HUS := Lib.hid hus
  clear h hs hu hus
  generalize hN : fs.length = n at *
  have HN := Lib.hid hN
  clear hN
  go_enter Tryz.func58, Tryz.ntmps58
  go_wp2_with fail
  go_loopw [1, 5] (fun q i wr => ∃ (j m : Nat) (cu : List NodeD), j ≤ n ∧ i = .int .i64 j ∧ q = .int .i64 (m : Nat) ∧ m ≤ 1048576 + j * 1048578 ∧ Hid (cu.length = n) ∧ Hid (∀ i, i < n → (cu.getD i default).subs.length ≤ 1048576) ∧ Hid (OwnL nodeK wr base 78 (.slice A n cap) cu vs) ∧ Hid (Chg P w wr)) (fun _ i _ => n - (intOf i).toNat)
  case atStart => exact ⟨0, k, fs, Nat.zero_le _, rfl, rfl, by omega, HN.out, fun i hi => HS.out _ (getD_memD fs i (by rw [HN.out]; exact hi)), HO.out, Chg.refl _ _⟩
  case round =>
    obtain ⟨j, m, cu, hj, rfl, rfl, hm, hcl, hcs, HO1, HR⟩ := hrel
    by_cases hlt : j < n
    · obtain ⟨g, rfl, hgl, hgb⟩ := hA (by omega)
      have HPG : Hid (P g) := HU.out g rfl
      have HT := Lib.hid (fun W => markText_any m W (by omega))
      go_wp2_with fail
      refine (HT.out _).mono ?_
      rintro e w1 ⟨rfl, hb1⟩
      have HOa := Lib.hid (HO1.out.later hb1)
      have HRa := Lib.hid (HR.out.trans (Chg.of_below hb1))
      clear hb1
      have hrow := HOa.out.row
      rw [hcl.out] at hrow
      obtain ⟨cur, hblk⟩ := own_blk hrow
      have x0 := own_cell hrow (j * 3) _ (by show _ < n * 3; omega) ((flat_at nodeK _ vs j 0 HOa.out.len (by rw [hcl.out]; exact hlt) (by decide)).trans rfl)
      have y0 := hblk.frozen (j * 3)
      have z0 := hblk.lt
      have HOb := Lib.hid (HOa.out.put hcl.out (i := j) (c := 0) (q := j * 3) (u := .string (markT m)) (d' := { cu.getD j default with name := markT m }) hlt (by decide) (by show _ = j * 3 + 0; omega) rfl (fun v => rfl) rfl (by decide))
      have HRb := Lib.hid (HRa.out.set HPG.out (j * 3) (.string (markT m)))
      have hsm := hcs.out j hlt
      have hlj : j < cu.length := by rw [hcl.out]; exact hlt
      have HLJ := Lib.hid hlj
      have HSb : Hid (SubO (w1.setCell ⟨g, j * 3, none⟩ (.string (markT m))) base (vs.getD j (.slice none 0 0)) (cu.getD j default).subs) := by
        have hx := HOb.out.subs j (by rw [List.length_set]; exact hlj)
        rw [getD_set_d _ _ _ hlj] at hx
        exact hx
      obtain ⟨A3, cap3, e3, _⟩ := own_slice HSb.out
      have HE3 := Lib.hid e3
      have hrow2 := HOb.out.row
      rw [List.length_set, hcl.out] at hrow2
      have x1 := own_cell hrow2 (j * 3 + 1) _ (by show _ < n * 3; omega) ((flat_at nodeK _ vs j 1 HOb.out.len (by rw [List.length_set]; exact hlj) (by decide)).trans rfl)
      have x1' : (w1.setCell ⟨g, j * 3, none⟩ (.string (markT m))).cell? ⟨g, j * 3 + 1, none⟩ = some (.slice A3 (cu.getD j default).subs.length cap3) := x1.trans (congrArg some e3)
      have HV3 : Hid (Own.inP P (vs.getD j (.slice none 0 0))) := HUS.out _ (mem_of_getD _ _ _ (by rw [HVL.out]; exact hlt))
      have HK := Lib.hid (markStringS_own base (m + 1) _ _ _ HSb.out hsm (by omega))
      rw [HE3.out] at HK HV3
      have HX : Hid (∀ w2, SubO w2 base (vs.getD j (.slice none 0 0)) (marks (cu.getD j default).subs.length (m + 1)) → World.grownBy (w1.setCell ⟨g, j * 3, none⟩ (.string (markT m))) w2 (vs.getD j (.slice none 0 0)).ownBlock → OwnL nodeK w2 base 78 (.slice (some ⟨g, 0, none⟩) n cap) ((cu.set j { cu.getD j default with name := markT m }).set j ⟨markT m, marks (cu.getD j default).subs.length (m + 1), (cu.getD j default).val⟩) vs) := fun w2 hs2 hg2 => by
        exact HOb.out.mark (w' := w2) (i := j) (d' := ⟨markT m, marks (cu.getD j default).subs.length (m + 1), (cu.getD j default).val⟩) (by rw [List.length_set]; exact HLJ.out) hs2 (fun v => by rw [getD_set_d _ _ _ HLJ.out]; rfl) hg2 (by decide)
      rw [HE3.out] at HX
      have HRX := Lib.hid (fun w2 (hg2 : World.grownBy _ w2 _) => HRb.out.trans (Chg.of_grown hg2 HV3.out))
      have hsl : (cu.getD j default).subs.length = (cu.getD j default).subs.length := rfl
      generalize hdd : cu.getD j default = d at *
      clear hdd hrow hrow2 hblk x1 e3 hlj
      generalize hmt : markT m = mt at *
      clear hmt
      generalize hss : d.subs.length = sl at *
      clear hss hsl
      generalize d.name = dn at *
      clear HOa HRa HOb HRb HSb HE3
      go_wp2_with fail
      rw [show ((m : Int) + 1) = ((m + 1 : Nat) : Int) from by omega]
      refine HK.out.mono ?_
      rintro e w2 ⟨rfl, hsub2, hg2⟩
      have HOc := Lib.hid (HX.out _ hsub2 hg2)
      have HRc := Lib.hid (HRX.out _ hg2)
      have HTn := Lib.hid (fun W => markText_any (m + 1 + sl) W (by omega))
      clear hsub2 hg2 x0 x1' y0 z0
      have hc2 : ((cu.set j { d with name := mt }).set j ⟨mt, marks sl (m + 1), d.val⟩).length = n := by rw [List.length_set, List.length_set]; exact hcl.out
      have hd2 : ((cu.set j { d with name := mt }).set j ⟨mt, marks sl (m + 1), d.val⟩).getD j default = ⟨mt, marks sl (m + 1), d.val⟩ := getD_set_d _ _ _ (by rw [List.length_set]; exact HLJ.out)
      have hs2 : ∀ i, i < n → (((cu.set j { d with name := mt }).set j ⟨mt, marks sl (m + 1), d.val⟩).getD i default).subs.length ≤ 1048576 := fun i hi => by
        by_cases e : j = i
        · subst e; rw [hd2, marks_len]; exact hsm
        · rw [Own.getD_set_ _ _ _ _ _ (by rw [List.length_set]; exact HLJ.out), if_neg e, Own.getD_set_ _ _ _ _ _ HLJ.out, if_neg e]
          exact hcs.out i hi
      have HC2 := Lib.hid hc2
      have HD2 := Lib.hid hd2
      have HS2 := Lib.hid hs2
      clear hc2 hd2 hs2 HX HRX HK HT
      generalize (cu.set j { d with name := mt }).set j ⟨mt, marks sl (m + 1), d.val⟩ = cv at *
      generalize d.val = dv at *
      go_wp2_with fail
      refine (HTn.out _).mono ?_
      rintro e w3 ⟨rfl, hb3⟩
      have HOd := Lib.hid (HOc.out.later hb3)
      have HRd := Lib.hid (HRc.out.trans (Chg.of_below hb3))
      clear hb3
      have hrow := HOd.out.row
      rw [HC2.out] at hrow
      obtain ⟨cur, hblk⟩ := own_blk hrow
      have x2 := own_cell hrow (j * 3 + 2) _ (by show _ < n * 3; omega) ((flat_at nodeK _ vs j 2 HOd.out.len (by rw [HC2.out]; exact hlt) (by decide)).trans rfl)
      rw [HD2.out] at x2
      have y2 := hblk.frozen (j * 3 + 2)
      have z2 := hblk.lt
      have HOe := Lib.hid (HOd.out.put HC2.out (i := j) (c := 2) (q := j * 3 + 2) (u := .string (markT (m + 1 + sl))) (d' := ⟨mt, marks sl (m + 1), markT (m + 1 + sl)⟩) hlt (by decide) rfl HD2.out (fun v => rfl) rfl (by decide))
      have HRe := Lib.hid (HRd.out.set HPG.out (j * 3 + 2) (.string (markT (m + 1 + sl))))
      have HCe : Hid ((cv.set j ⟨mt, marks sl (m + 1), markT (m + 1 + sl)⟩).length = n) := by unfold Hid; rw [List.length_set]; exact HC2.out
      have HSe : Hid (∀ i, i < n → ((cv.set j ⟨mt, marks sl (m + 1), markT (m + 1 + sl)⟩).getD i default).subs.length ≤ 1048576) := fun i hi => by
        by_cases e : j = i
        · subst e; rw [getD_set_d _ _ _ (by rw [HC2.out]; exact hlt), marks_len]; exact hsm
        · rw [Own.getD_set_ _ _ _ _ _ (by rw [HC2.out]; exact hlt), if_neg e]
          exact HS2.out i hi
      generalize cv.set j ⟨mt, marks sl (m + 1), markT (m + 1 + sl)⟩ = cx at *
      clear hrow hblk HOd HRd HOc HRc HTn
      generalize markT (m + 1 + sl) = mt2 at *
      go_wp2_with fail
      go_roundw
      case rel => exact ⟨j + 1, m + 2 + sl, cx, by omega, by go_num, by go_num, by omega, HCe.out, HSe.out, HOe.out, HRe.out⟩
      case measure => simp [intOf]; omega
    · obtain rfl : j = n := by omega
      go_wp2_with fail
      go_ret
      exact ⟨m, rfl, by omega, HR.out⟩

set_option maxRecDepth 100000 in
set_option maxHeartbeats 2000000 in
theorem markCondS_any (base k : Nat) (P : Nat → Prop) (v : Value) (fs : List CondD) (vs : List Value) (w : World) (h : OwnL condK w base 101 v fs vs) (hs : fs.length ≤ 1048576) (hk : k ≤ 2199026401280) (hu : Own.inP P v) :
    Calls Tryz.prog 60 #[v, .int .i64 k] w fun e w' => ∃ m : Nat, e = .returned (.int .i64 m) ∧ m ≤ 2199030595584 ∧ Chg P w w' := by
  obtain ⟨A, cap, rfl, _, _, hA⟩ := own_slice h.row
  have HO := Lib.hid h
  have hn := hs
  have HU := Lib.hid hu
  clear h hs hu
  generalize hN : fs.length = n at *
  have HN := Lib.hid hN
  clear hN
  go_enter Tryz.func60, Tryz.ntmps60
  go_wp2_with fail
  go_loopw [1, 5] (fun q i wr => ∃ (j m : Nat) (cu : List CondD), j ≤ n ∧ i = .int .i64 j ∧ q = .int .i64 (m : Nat) ∧ m ≤ 2199026401280 + j * 3 ∧ Hid (cu.length = n) ∧ Hid (OwnL condK wr base 101 (.slice A n cap) cu vs) ∧ Hid (Chg P w wr)) (fun _ i _ => n - (intOf i).toNat)
  case atStart => exact ⟨0, k, fs, Nat.zero_le _, rfl, rfl, by omega, HN.out, HO.out, Chg.refl _ _⟩
  case round =>
    obtain ⟨j, m, cu, hj, rfl, rfl, hm, hcl, HO1, HR⟩ := hrel
    by_cases hlt : j < n
    · obtain ⟨g, rfl, hgl, hgb⟩ := hA (by omega)
      have HPG : Hid (P g) := HU.out g rfl
      have HT := Lib.hid (fun W => markText_any m W (by omega))
      have HTn := Lib.hid (fun W => markText_any (m + 2) W (by omega))
      go_wp2_with fail
      refine (HT.out _).mono ?_
      rintro e w1 ⟨rfl, hb1⟩
      have HOa := Lib.hid (HO1.out.later hb1)
      have HRa := Lib.hid (HR.out.trans (Chg.of_below hb1))
      clear hb1
      have hrow := HOa.out.row
      rw [hcl.out] at hrow
      obtain ⟨cur, hblk⟩ := own_blk hrow
      have x0 := own_cell hrow (j * 3) _ (by show _ < n * 3; omega) ((flat_at condK _ vs j 0 HOa.out.len (by rw [hcl.out]; exact hlt) (by decide)).trans rfl)
      have x1 := own_cell hrow (j * 3 + 1) _ (by show _ < n * 3; omega) ((flat_at condK _ vs j 1 HOa.out.len (by rw [hcl.out]; exact hlt) (by decide)).trans rfl)
      have y0 := hblk.frozen (j * 3)
      have y1 := hblk.frozen (j * 3 + 1)
      have z0 := hblk.lt
      have HOb := Lib.hid (HOa.out.put hcl.out (i := j) (c := 0) (q := j * 3) (u := .string (markT m)) (d' := { cu.getD j default with col := markT m }) hlt (by decide) (by show _ = j * 3 + 0; omega) rfl (fun v => rfl) rfl (by decide))
      have HLJ : Hid (j < cu.length) := by unfold Hid; rw [hcl.out]; exact hlt
      have HOc := Lib.hid (HOb.out.put (by rw [List.length_set]; exact hcl.out) (i := j) (c := 1) (q := j * 3 + 1) (u := .int .i64 (m + 1 : Nat)) (d' := { cu.getD j default with col := markT m, op := (m + 1 : Nat) }) hlt (by decide) rfl (getD_set_d _ _ _ HLJ.out) (fun v => rfl) rfl (by decide))
      have HRc := Lib.hid ((HRa.out.set HPG.out (j * 3) (.string (markT m))).set HPG.out (j * 3 + 1) (.int .i64 (m + 1 : Nat)))
      have HCc : Hid (((cu.set j { cu.getD j default with col := markT m }).set j { cu.getD j default with col := markT m, op := (m + 1 : Nat) }).length = n) := by unfold Hid; rw [List.length_set, List.length_set]; exact hcl.out
      have HDc : Hid (((cu.set j { cu.getD j default with col := markT m }).set j { cu.getD j default with col := markT m, op := (m + 1 : Nat) }).getD j default = { cu.getD j default with col := markT m, op := (m + 1 : Nat) }) := getD_set_d _ _ _ (by rw [List.length_set]; exact HLJ.out)
      generalize (cu.set j { cu.getD j default with col := markT m }).set j { cu.getD j default with col := markT m, op := (m + 1 : Nat) } = cv at *
      generalize cu.getD j default = d at *
      generalize markT m = mt at *
      rw [show ((m + 1 : Nat) : Int) = (m : Int) + 1 from by omega] at HOc HRc HDc
      generalize d.col = dc at *
      generalize d.op = dop at *
      generalize d.val = dv at *
      clear hrow hblk HOa HRa HOb HT
      go_wp2_with fail
      rw [show ((m : Int) + 1 + 1) = ((m + 2 : Nat) : Int) from by omega]
      refine (HTn.out _).mono ?_
      rintro e w3 ⟨rfl, hb3⟩
      have HOd := Lib.hid (HOc.out.later hb3)
      have HRd := Lib.hid (HRc.out.trans (Chg.of_below hb3))
      clear hb3 x0 x1 y0 y1 z0
      have hrow := HOd.out.row
      rw [HCc.out] at hrow
      obtain ⟨cur, hblk⟩ := own_blk hrow
      have x2 := own_cell hrow (j * 3 + 2) _ (by show _ < n * 3; omega) ((flat_at condK _ vs j 2 HOd.out.len (by rw [HCc.out]; exact hlt) (by decide)).trans rfl)
      rw [HDc.out] at x2
      have y2 := hblk.frozen (j * 3 + 2)
      have z2 := hblk.lt
      have HOe := Lib.hid (HOd.out.put HCc.out (i := j) (c := 2) (q := j * 3 + 2) (u := .string (markT (m + 2))) (d' := ⟨mt, (m : Int) + 1, markT (m + 2)⟩) hlt (by decide) rfl HDc.out (fun v => rfl) rfl (by decide))
      have HRe := Lib.hid (HRd.out.set HPG.out (j * 3 + 2) (.string (markT (m + 2))))
      have HCe : Hid ((cv.set j ⟨mt, (m : Int) + 1, markT (m + 2)⟩).length = n) := by unfold Hid; rw [List.length_set]; exact HCc.out
      generalize cv.set j ⟨mt, (m : Int) + 1, markT (m + 2)⟩ = cx at *
      clear hrow hblk HOd HRd HOc HRc HTn HDc
      generalize markT (m + 2) = mt2 at *
      go_wp2_with fail
      go_roundw
      case rel => exact ⟨j + 1, m + 3, cx, by omega, by go_num, by go_num, by omega, HCe.out, HOe.out, HRe.out⟩
      case measure => simp [intOf]; omega
    · obtain rfl : j = n := by omega
      go_wp2_with fail
      go_ret
      exact ⟨m, rfl, by omega, HR.out⟩

set_option maxRecDepth 100000 in
set_option maxHeartbeats 1000000 in
theorem markTree_any (base k : Nat) (P : Nat → Prop) (v : Value) (fs : List NodeD) (vs : List Value) (w : World) (h : OwnL nodeK w base 78 v fs vs) (hs : fs.length ≤ 1048576 ∧ ∀ d ∈ fs, d.subs.length ≤ 1048576) (hk : k ≤ 1048576) (hu : Own.inP P v) (hus : ∀ u ∈ vs, Own.inP P u) :
    Calls Tryz.prog 22 #[.agg #[v], .int .i64 k] w fun e w' => ∃ m : Nat, e = .returned (.int .i64 m) ∧ m ≤ 2199023255552 ∧ Chg P w w' := by
  have HK := Lib.hid (fun W (hW : Below w.heap.size w W) => markNodeS_any base k P v fs vs W (h.later hW) hs hk hu hus)
  obtain ⟨A, cap, rfl, _, _, _⟩ := own_slice h.row
  clear h hs hu hus
  go_enter Tryz.func22, Tryz.ntmps22
  go_wp2_with fail
  refine (HK.out _ (Below.new _ _)).mono ?_
  rintro e w1 ⟨m, rfl, hm, hc⟩
  have HC := Lib.hid ((Chg.of_below (Below.new _ _)).trans hc)
  clear hc
  go_wp2_with fail
  go_ret
  exact ⟨m, rfl, hm, HC.out⟩
set_option maxRecDepth 100000 in
set_option maxHeartbeats 1000000 in
theorem markTable_any (base k : Nat) (P : Nat → Prop) (c0 c1 : ByteArray) (v2 v3 : Value) (ss tt : List ByteArray) (w : World) (h2 : SubO w base v2 ss) (h3 : SubO w base v3 tt) (ha : apart v2 v3) (hs : ss.length ≤ 1048576) (ht : tt.length ≤ 1048576) (hk : k ≤ 2199023255552) (hu : Own.inP P v2) (hv : Own.inP P v3) :
    Calls Tryz.prog 23 #[.agg #[.string c0, .string c1, v2, v3], .int .i64 k] w fun e w' => ∃ m : Nat, e = .returned (.int .i64 m) ∧ m ≤ 2199025352704 ∧ Chg P w w' := by
  have HK2 := Lib.hid (fun W (hW : Below w.heap.size w W) => markStringS_own base k v2 ss W (own_later h2 hW) hs (by omega))
  have HK3 := Lib.hid (fun W W' (hW : Below w.heap.size w W) (hg : W.grownBy W' v2.ownBlock) => markStringS_own base (k + ss.length) v3 tt W' (World.ownsRow.kept (own_later h3 hW) hg (apart_symm ha)) ht (by omega))
  obtain ⟨A2, p2, rfl, _⟩ := own_slice h2
  obtain ⟨A3, p3, rfl, _⟩ := own_slice h3
  have HU := Lib.hid hu
  have HV := Lib.hid hv
  have HL2 : Hid (∀ g, (Value.slice A2 ss.length p2).ownBlock = some g → g < w.heap.size) := fun g hg => (World.ownsRow.lt h2 g hg).2
  clear h2 h3 ha hu hv
  go_enter Tryz.func23, Tryz.ntmps23
  go_wp2_with fail
  refine (HK2.out _ (Below.new _ _)).mono ?_
  rintro e w1 ⟨rfl, _, hg1⟩
  have HK := Lib.hid (HK3.out _ _ (Below.new _ _) hg1)
  have HC1 := Lib.hid ((Chg.of_below (Below.new w (.cells #[.string c0, .string c1, .slice A2 ss.length p2, .slice A3 tt.length p3] 43))).trans (Chg.of_grown hg1 HU.out))
  have hbx : Blk w1 w.heap.size 43 #[.string c0, .string c1, .slice A2 ss.length p2, .slice A3 tt.length p3] := by
    refine Blk.grown (heap_last rfl) hg1 ?_
    intro e
    have := HL2.out w.heap.size e.symm
    omega
  have px := hbx.cell 3
  have pz := hbx.lt
  simp at px
  clear hg1 hbx
  go_wp2_with fail
  refine HK.out.mono ?_
  rintro e w2 ⟨rfl, _, hg2⟩
  have HC2 := Lib.hid (HC1.out.trans (Chg.of_grown hg2 HV.out))
  clear hg2
  go_wp2_with fail
  go_ret
  exact ⟨_, rfl, by omega, HC2.out⟩
set_option maxRecDepth 100000 in
set_option maxHeartbeats 1000000 in
theorem markQuery_any (base k : Nat) (P : Nat → Prop) (c0 c3 : ByteArray) (c4 : Bool) (c5 : Int) (v1 v2 : Value) (ss : List ByteArray) (fs : List CondD) (vs : List Value) (w : World) (h1 : SubO w base v1 ss) (h2 : OwnL condK w base 101 v2 fs vs) (hs : ss.length ≤ 1048576) (ht : fs.length ≤ 1048576) (hvs : ∀ u ∈ vs, u.ownBlock = none) (hk : k ≤ 2199025352704) (hu : Own.inP P v1) (hv : Own.inP P v2) :
    Calls Tryz.prog 24 #[.agg #[.string c0, v1, v2, .string c3, .bool c4, .int .i64 c5], .int .i64 k] w fun e w' => ∃ m : Nat, e = .returned (.int .i64 m) ∧ m ≤ 2199030595584 ∧ Chg P w w' := by
  have HK1 := Lib.hid (fun W (hW : Below w.heap.size w W) => markStringS_own base k v1 ss W (own_later h1 hW) hs (by omega))
  have HK2 := Lib.hid (fun W W' (hW : Below w.heap.size w W) (hg : W.grownBy W' v1.ownBlock) => markCondS_any base (k + ss.length) P v2 fs vs W' (OwnL.keptG h2 hW hg h1 hvs) ht (by omega) hv)
  obtain ⟨A1, p1, rfl, _⟩ := own_slice h1
  obtain ⟨A2, p2, rfl, _⟩ := own_slice h2.row
  have HU := Lib.hid hu
  have HL1 : Hid (∀ g, (Value.slice A1 ss.length p1).ownBlock = some g → g < w.heap.size) := fun g hg => (World.ownsRow.lt h1 g hg).2
  clear h1 h2 hu hv hvs
  go_enter Tryz.func24, Tryz.ntmps24
  go_wp2_with fail
  refine (HK1.out _ (Below.new _ _)).mono ?_
  rintro e w1 ⟨rfl, _, hg1⟩
  have HK := Lib.hid (HK2.out _ _ (Below.new _ _) hg1)
  have HC1 := Lib.hid ((Chg.of_below (Below.new w (.cells #[.string c0, .slice A1 ss.length p1, .slice A2 fs.length p2, .string c3, .bool c4, .int .i64 c5] 47))).trans (Chg.of_grown hg1 HU.out))
  have hbx : Blk w1 w.heap.size 47 #[.string c0, .slice A1 ss.length p1, .slice A2 fs.length p2, .string c3, .bool c4, .int .i64 c5] := by
    refine Blk.grown (heap_last rfl) hg1 ?_
    intro e
    have := HL1.out w.heap.size e.symm
    omega
  have px := hbx.cell 2
  have pz := hbx.lt
  simp at px
  clear hg1 hbx
  go_wp2_with fail
  refine HK.out.mono ?_
  rintro e w2 ⟨m, rfl, hm, hg2⟩
  have HC2 := Lib.hid (HC1.out.trans hg2)
  clear hg2
  go_wp2_with fail
  go_ret
  exact ⟨_, rfl, hm, HC2.out⟩
end Go.Proofs.YtalpafaflgddpaaGreatDoor

namespace Go.Proofs.YtalpafaflgddpaaGreatDoor
open Go.RowKit Go.Proofs.YtalpafaflgddpaaGreatDoor.Own
set_option linter.unusedVariables false

def rowsFine (fs : List (List ByteArray)) : Prop := fs.length ≤ 1048576 ∧ ∀ d ∈ fs, d.length ≤ 1048576
/-- The mark's number ahead of row j. -/
def mkAtR (fs : List (List ByteArray)) (k : Nat) : Nat → Nat
  | 0 => k
  | j + 1 => mkAtR fs k j + (fs.getD j default).length
/-- The rows, j of them marked. -/
def mkRows (fs : List (List ByteArray)) (k : Nat) : Nat → List (List ByteArray)
  | 0 => fs
  | j + 1 => (mkRows fs k j).set j (marks (fs.getD j default).length (mkAtR fs k j))
theorem mkRows_len (fs : List (List ByteArray)) (k : Nat) : ∀ j, (mkRows fs k j).length = fs.length
  | 0 => rfl
  | j + 1 => by rw [mkRows, List.length_set, mkRows_len fs k j]
theorem mkRows_rest (fs : List (List ByteArray)) (k : Nat) : ∀ j i, j ≤ i → (mkRows fs k j).getD i default = fs.getD i default
  | 0, _, _ => rfl
  | j + 1, i, h => by
    rw [mkRows, List.getD_eq_getElem?_getD, List.getElem?_set_ne (by omega), ← List.getD_eq_getElem?_getD]
    exact mkRows_rest fs k j i (by omega)
theorem mkRows_at (fs : List (List ByteArray)) (k : Nat) : ∀ j i, i < j → j ≤ fs.length → (mkRows fs k j).getD i default = marks (fs.getD i default).length (mkAtR fs k i)
  | 0, _, h, _ => absurd h (by omega)
  | j + 1, i, h, hl => by
    rw [mkRows, Own.getD_set_ _ _ _ _ _ (by rw [mkRows_len]; omega)]
    by_cases e : j = i
    · subst e; rw [if_pos rfl]
    · rw [if_neg e]; exact mkRows_at fs k j i (by omega) (by omega)
theorem mkAtR_le (fs : List (List ByteArray)) (k : Nat) (h : rowsFine fs) : ∀ j, j ≤ fs.length → mkAtR fs k j ≤ k + j * 1048576
  | 0, _ => by simp [mkAtR]
  | j + 1, hj => by
    have ih := mkAtR_le fs k h j (by omega)
    have hs := h.2 _ (getD_memD fs j (by omega))
    rw [mkAtR]
    omega
def MkRPost (base : Nat) (P : Nat → Prop) (v : Value) (fs : List (List ByteArray)) (vs : List Value) (k : Nat) (w : World) (e : Ending) (w' : World) : Prop :=
  e = .returned (.int .i64 (mkAtR fs k fs.length : Nat)) ∧ OwnL rowK w' base 90 v (mkRows fs k fs.length) vs ∧ Chg P w w'

set_option maxRecDepth 100000 in
set_option maxHeartbeats 2000000 in
theorem markRowS_any (base k : Nat) (P : Nat → Prop) (v : Value) (fs : List (List ByteArray)) (vs : List Value) (w : World) (h : OwnL rowK w base 90 v fs vs) (hs : rowsFine fs) (hk : k ≤ 1048576) (hu : Own.inP P v) (hus : ∀ u ∈ vs, Own.inP P u) :
    Calls Tryz.prog 25 #[v, .int .i64 k] w (MkRPost base P v fs vs k w) := by
  obtain ⟨A, cap, rfl, _, _, hA⟩ := own_slice h.row
  have HO := Lib.hid h
  have HS := Lib.hid hs.2
  have HVL := Lib.hid h.len
  have hn := hs.1
  have HUS := Lib.hid hus
  have HLE := Lib.hid (fun j hj => mkAtR_le fs k hs j hj)
  clear h hs hu hus
  generalize hN : fs.length = n at *
  have HN := Lib.hid hN
  clear hN
  go_enter Tryz.func25, Tryz.ntmps25
  go_wp2_with fail
  go_loopw [1, 5] (fun q i wr => ∃ (j m : Nat), j ≤ n ∧ i = .int .i64 j ∧ q = .int .i64 (m : Nat) ∧ Hid (m = mkAtR fs k j) ∧ Hid (OwnL rowK wr base 90 (.slice A n cap) (mkRows fs k j) vs) ∧ Hid (Chg P w wr)) (fun _ i _ => n - (intOf i).toNat)
  case atStart => exact ⟨0, k, Nat.zero_le _, rfl, rfl, rfl, HO.out, Chg.refl _ _⟩
  case round =>
    obtain ⟨j, m, hj, rfl, rfl, hm, HO1, HR⟩ := hrel
    by_cases hlt : j < n
    · obtain ⟨g, rfl, hgl, hgb⟩ := hA (by omega)
      have hmle : m ≤ 4398046511104 - 10 := by
        have h1 := HLE.out j (by omega)
        rw [hm.out]
        omega
      have hlk : (mkRows fs k j).length = n := by rw [mkRows_len, HN.out]
      have HLK := Lib.hid hlk
      have hrow := HO1.out.row
      rw [hlk] at hrow
      obtain ⟨cur, hblk⟩ := own_blk hrow
      have hD := mkRows_rest fs k j j (Nat.le_refl _)
      have x0 := own_cell hrow j _ (by show _ < n * 1; omega) (by
        have hx := flat_at rowK _ vs j 0 HO1.out.len (by rw [hlk]; exact hlt) (by decide)
        have e : j * rowK.size + 0 = j := by show j * 1 + 0 = j; omega
        rw [e] at hx
        exact hx.trans rfl)
      have y0 := hblk.frozen j
      have z0 := hblk.lt
      have HSB := Lib.hid (HO1.out.subs j (by rw [hlk]; exact hlt))
      rw [hD] at HSB
      have HSB2 : Hid (SubO wr base (vs.getD j (.slice none 0 0)) (fs.getD j default)) := HSB.out
      obtain ⟨A3, cap3, e3, _⟩ := own_slice HSB2.out
      have HE3 := Lib.hid e3
      have x0' : wr.cell? ⟨g, j, none⟩ = some (.slice A3 (fs.getD j default).length cap3) := x0.trans (congrArg some e3)
      have HV3 : Hid (Own.inP P (vs.getD j (.slice none 0 0))) := HUS.out _ (mem_of_getD _ _ _ (by rw [HVL.out]; exact hlt))
      have hsm := HS.out _ (getD_memD fs j (by rw [HN.out]; exact hlt))
      have HK := Lib.hid (markStringS_own base m _ _ _ HSB2.out hsm (by omega))
      rw [HE3.out] at HK HV3
      have HX : Hid (∀ w2, SubO w2 base (vs.getD j (.slice none 0 0)) (marks (fs.getD j default).length m) → World.grownBy wr w2 (vs.getD j (.slice none 0 0)).ownBlock → OwnL rowK w2 base 90 (.slice (some ⟨g, 0, none⟩) n cap) (mkRows fs k (j + 1)) vs) := fun w2 hs2 hg2 => by
        rw [mkRows, ← hm.out]
        exact HO1.out.mark (w' := w2) (i := j) (d' := marks (fs.getD j default).length m) (by rw [HLK.out]; exact hlt) hs2 (fun v => rfl) hg2 (by decide)
      rw [HE3.out] at HX
      have HRX := Lib.hid (fun w2 (hg2 : World.grownBy _ w2 _) => HR.out.trans (Chg.of_grown hg2 HV3.out))
      have HE : Hid (m + (fs.getD j default).length = mkAtR fs k (j + 1)) := by unfold Hid; rw [mkAtR, ← hm.out]
      clear hrow hblk x0 e3 hlk hD HSB HSB2 HE3 HO1 HR hm
      generalize hsl : (fs.getD j default).length = sl at *
      clear hsl
      go_wp2_with fail
      refine HK.out.mono ?_
      rintro e w2 ⟨rfl, hsub2, hg2⟩
      have HON := Lib.hid (HX.out _ hsub2 hg2)
      have HRN := Lib.hid (HRX.out _ hg2)
      clear hsub2 hg2 HX HRX HK x0' y0 z0
      go_wp2_with fail
      go_roundw
      case rel => exact ⟨j + 1, m + sl, by omega, by go_num, by go_num, HE.out, HON.out, HRN.out⟩
      case measure => simp [intOf]; omega
    · obtain rfl : j = n := by omega
      go_wp2_with fail
      go_ret
      exact ⟨by rw [HN.out, ← hm.out]; rfl, by rw [HN.out]; exact HO1.out, HR.out⟩

set_option maxRecDepth 100000 in
set_option maxHeartbeats 2000000 in
theorem heldRowS_any (A : Option Addr) (n c k : Nat) (fs : List (List ByteArray)) (w : World) (hN : fs.length = n) (h : RowsRd w w.heap.size A n (mkRows fs k n)) (hs : rowsFine fs) (hk : k ≤ 1048576) :
    Calls Tryz.prog 26 #[.slice A n c, .int .i64 k] w fun e w' => e = .returned (.int .i64 (mkAtR fs k n : Nat)) ∧ Below w.heap.size w w' := by
  have Hh := Lib.hid h
  have HS := Lib.hid hs.2
  have hn : n ≤ 1048576 := by rw [← hN]; exact hs.1
  have HLE := Lib.hid (fun j hj => mkAtR_le fs k hs j hj)
  have HN := Lib.hid hN
  clear h hs hN
  go_enter Tryz.func26, Tryz.ntmps26
  go_wp2_with fail
  go_loopw [1, 5] (fun q i wr => ∃ (j m : Nat), j ≤ n ∧ i = .int .i64 j ∧ q = .int .i64 (m : Nat) ∧ Hid (m = mkAtR fs k j) ∧ Hid (Below w.heap.size w wr)) (fun _ i _ => n - (intOf i).toNat)
  case atStart => exact ⟨0, k, Nat.zero_le _, rfl, rfl, rfl, Below.refl _ _⟩
  case round =>
    obtain ⟨j, m, hj, rfl, rfl, hm, HB⟩ := hrel
    by_cases hlt : j < n
    · have hmle : m ≤ 4398046511104 - 10 := by
        have h1 := HLE.out j (by rw [HN.out]; omega)
        rw [hm.out]
        omega
      have HRD := Lib.hid (Hh.out.later HB.out)
      obtain ⟨b, o, rfl, hbB, hc⟩ := HRD.out.2 (by omega)
      obtain ⟨v, x0, A3, n3, cap3, rfl, hstr, hcap3⟩ := hc j hlt
      rw [mkRows_at fs k n j hlt (by rw [HN.out]; exact Nat.le_refl _), ← hm.out] at hstr
      have hsm := HS.out _ (getD_memD fs j (by rw [HN.out]; exact hlt))
      have hlen : (marks (fs.getD j default).length m).length = n3 := hstr.1
      rw [marks_len] at hlen
      have HE : Hid (m + (fs.getD j default).length = mkAtR fs k (j + 1)) := by unfold Hid; rw [mkAtR, ← hm.out]
      rw [hlen] at hsm hstr HE
      have HK := Lib.hid (heldStringS_big A3 n3 cap3 m wr hstr hsm (by omega))
      clear hc hstr hlen hm
      go_wp2_with fail
      refine HK.out.mono ?_
      rintro e w2 ⟨rfl, hb2⟩
      have HB2 := Lib.hid (HB.out.later hb2)
      clear hb2 HK
      have hneg : ¬ ((m + n3 : Nat) : Int) < 0 := by omega
      go_wp2_with fail
      go_roundw
      case rel => exact ⟨j + 1, m + n3, by omega, by go_num, by go_num, HE.out, HB2.out⟩
      case measure => simp [intOf]; omega
    · obtain rfl : j = n := by omega
      go_wp2_with fail
      go_ret
      exact ⟨by rw [← hm.out]; rfl, HB.out⟩

set_option maxHeartbeats 1000000 in
theorem eqRow_same (r0 r1 : Value) (d : List ByteArray) (w : World) (h : RowR w w.heap.size r0 d) (h' : RowR w w.heap.size r1 d) (hs : d.length ≤ 1048576) :
    Calls Tryz.prog 57 #[.agg #[r0], .agg #[r1]] w fun e w' => e = .returned (.bool true) ∧ Below w.heap.size w w' := by
  have HK := Lib.hid (fun W (hW : Below w.heap.size w W) => h.later hW)
  have HK' := Lib.hid (fun W (hW : Below w.heap.size w W) => h'.later hW)
  obtain ⟨A1, n1, cap1, rfl, s1, hc1⟩ := h
  obtain ⟨A2, n2, cap2, rfl, s2, hc2⟩ := h'
  have HE := Lib.hid (fun W (hW : Below w.heap.size w W) => eqStringS_same A1 A2 n1 cap1 n2 cap2 d W (s1.later hW) (s2.later hW) hs)
  clear s1 s2
  go_enter Tryz.func57, Tryz.ntmps57
  go_wp2_with fail
  refine (HE.out _ (by exact (Below.new w _).later (Below.new _ _))).mono ?_
  rintro e w1 ⟨rfl, q, rfl⟩
  go_wp2_with fail
  go_ret
  exact ⟨rfl, below_drewN ((Below.new w _).later (Below.new _ _)) q⟩

set_option maxRecDepth 100000 in
set_option maxHeartbeats 2000000 in
theorem eqRowS_same (A A' : Option Addr) (n c n' c' : Nat) (fs : List (List ByteArray)) (w : World) (h : RowsRd w w.heap.size A n fs) (h' : RowsRd w w.heap.size A' n' fs) (hs : rowsFine fs) :
    Calls Tryz.prog 21 #[.slice A n c, .slice A' n' c'] w fun e w' => e = .returned (.bool true) ∧ Below w.heap.size w w' := by
  obtain rfl : n' = n := h'.1.symm.trans h.1
  have Hh := Lib.hid h
  have Hh' := Lib.hid h'
  have HS := Lib.hid hs.2
  have hn : n' ≤ 1048576 := by rw [← h.1]; exact hs.1
  clear h h' hs
  go_enter Tryz.func21, Tryz.ntmps21
  go_wp2_with fail
  go_loopw [5] (fun i wr => ∃ (j : Nat), j ≤ n' ∧ i = .int .i64 j ∧ Hid (Below w.heap.size w wr)) (fun i _ => n' - (intOf i).toNat)
  case atStart => exact ⟨0, Nat.zero_le _, rfl, Below.refl _ _⟩
  case round =>
    obtain ⟨j, hj, rfl, HB⟩ := hrel
    by_cases hlt : j < n'
    · have HRD := Lib.hid (Hh.out.later HB.out)
      have HRD' := Lib.hid (Hh'.out.later HB.out)
      obtain ⟨b, o, rfl, hbB, hc⟩ := HRD.out.2 (by omega)
      obtain ⟨b', o', rfl, hbB', hc'⟩ := HRD'.out.2 (by omega)
      obtain ⟨v, x0, hr⟩ := hc j hlt
      obtain ⟨v', x0', hr'⟩ := hc' j hlt
      have hsm := HS.out _ (getD_memD fs j (by rw [Hh.out.1]; exact hlt))
      have HK := Lib.hid (fun W (hW : Below wr.heap.size wr W) => eqRow_same v v' _ W (hr.later hW) (hr'.later hW) hsm)
      obtain ⟨A1, n1, cap1, rfl, _, _⟩ := hr
      obtain ⟨A2, n2, cap2, rfl, _, _⟩ := hr'
      clear hc hc' hsm
      go_wp2_with fail
      go_region_held3 (fun w' => w'.cell? ⟨b, o + j, none⟩ = some (.slice A1 n1 cap1) ∧ w'.cell? ⟨b', o' + j, none⟩ = some (.slice A2 n2 cap2)) (first | exact ⟨x0, x0'⟩ | exact ⟨cell_later hb1 x0, cell_later hb1 x0'⟩)
        ((go_at_call 57; refine (HK.out _ (by exact (Below.refl _ _).drew)).mono ?_; rintro e w1 ⟨rfl, hb1'⟩; have hb1 := undrew hb1'; clear hb1'))
      have HB1 := Lib.hid (HB.out.later hb1)
      clear hb1
      go_wp2_with fail
      go_roundw
      case rel => exact ⟨j + 1, by omega, by go_num, HB1.out⟩
      case measure => simp [intOf]; omega
    · obtain rfl : j = n' := by omega
      go_wp2_with fail
      go_ret
      exact ⟨rfl, HB.out⟩
end Go.Proofs.YtalpafaflgddpaaGreatDoor

namespace Go.Proofs.YtalpafaflgddpaaGreatDoor
open Go.RowKit
set_option linter.unusedVariables false

theorem specRunQuery_r (a0 b0 b1 b2 b3 c0 c1 c2 c3 c4 c5 : Value) (t : TreeD) (b : TableD) (d : QueryD) (w : World) (ht : TreeR w w.heap.size a0 t) (hb : TableR w w.heap.size b0 b1 b2 b3 b) (h : QueryR w w.heap.size c0 c1 c2 c3 c4 c5 d) (hts : t.small) (hbs : b.small) (hs : d.small) :
    Calls Tryz.prog 19 #[.agg #[a0], .agg #[b0, b1, b2, b3], .agg #[c0, c1, c2, c3, c4, c5]] w (RowsPost (runB t.nodes b d) w) := by
  obtain ⟨A, n, cap, rfl, hN, _⟩ := ht
  exact specRunQuery_any A n cap b0 b1 b2 b3 c0 c1 c2 c3 c4 c5 t.nodes b d w hN hb h hts hbs hs
theorem RunQuery_r (a0 b0 b1 b2 b3 c0 c1 c2 c3 c4 c5 : Value) (t : TreeD) (b : TableD) (d : QueryD) (w : World) (htab : tabT w) (ht : TreeR w w.heap.size a0 t) (hb : TableR w w.heap.size b0 b1 b2 b3 b) (h : QueryR w w.heap.size c0 c1 c2 c3 c4 c5 d) (hts : t.small) (hbs : b.small) (hs : d.small) :
    Calls Tryz.prog 20 #[.agg #[a0], .agg #[b0, b1, b2, b3], .agg #[c0, c1, c2, c3, c4, c5]] w (RowsPost (runB t.nodes b d) w) := by
  obtain ⟨A, n, cap, rfl, hN, _⟩ := ht
  exact RunQuery_any A n cap b0 b1 b2 b3 c0 c1 c2 c3 c4 c5 t.nodes b d w htab hN hb h hts hbs hs
theorem flat_cond : ∀ (fs : List CondD) (vs us : List Value), vs.length = fs.length → us.length = fs.length → Own.flat condK fs vs = Own.flat condK fs us
  | [], [], [], _, _ => rfl
  | f :: fs, v :: vs, u :: us, h, h' => by
    rw [Own.flat, Own.flat, flat_cond fs vs us (by simpa using h) (by simpa using h')]
    rfl
  | [], _ :: _, _, h, _ => by simp at h
  | [], [], _ :: _, _, h => by simp at h
  | _ :: _, [], _, h, _ => by simp at h
  | _ :: _, _ :: _, [], _, h => by simp at h
theorem cond_nil {w : World} {base t : Nat} {v : Value} {fs : List CondD} {vs : List Value} (h : Own.OwnL condK w base t v fs vs) : Own.OwnL condK w base t v fs (List.replicate fs.length (.slice none 0 0)) :=
  ⟨by simp, by rw [flat_cond fs _ vs (by simp) h.len]; exact h.row, fun j hj => by
    have e : (List.replicate fs.length (Value.slice none 0 0)).getD j (.slice none 0 0) = .slice none 0 0 := by
      rw [List.getD_eq_getElem?_getD, List.getElem?_replicate]
      split <;> rfl
    rw [e]
    exact World.ownsRow_nil _ _ _ _, List.pairwise_replicate.2 (.inr (.inl rfl))⟩
theorem runB_fine {fs : List NodeD} {b : TableD} {q : QueryD} (hb : b.small) (hq : q.small) : rowsFine (runB fs b q).2 := by
  unfold runB
  split
  · next h =>
    simp only [Bool.and_eq_true] at h
    obtain ⟨⟨f1, f2⟩, _⟩ := fits_facts h.2
    split
    · next h0 =>
      obtain ⟨g1, g2⟩ := rowsT_zero f2 h0
      refine ⟨?_, fun r hr => ?_⟩
      · have h1 := cut_len q.limit (sortedB b.cols q ((rowsT b.cols (rowsN b.glob fs)).2.filter (staysB b.cols q.wher)))
        have h2 := order_len b.cols q ((rowsT b.cols (rowsN b.glob fs)).2.filter (staysB b.cols q.wher))
        have h3 := List.length_filter_le (staysB b.cols q.wher) (rowsT b.cols (rowsN b.glob fs)).2
        unfold madeB
        rw [List.length_map, h1]
        split <;> omega
      · unfold madeB at hr
        obtain ⟨x, _, rfl⟩ := List.mem_map.1 hr
        unfold projB selB
        rw [List.length_map]
        have k1 := hb.2.2.1.1
        have k2 := hq.2.1.1
        split <;> omega
    · exact ⟨by simp, fun r hr => by simp at hr⟩
  · exact ⟨by simp, fun r hr => by simp at hr⟩
set_option maxRecDepth 100000 in
set_option maxHeartbeats 4000000 in
theorem fnRQ_walk (a0 b0 b1 b2 b3 c0 c1 c2 c3 c4 c5 : Value) (t : TreeD) (b : TableD) (d : QueryD) (w : World) (htab : tabT w) (hTree : TreeR w w.heap.size a0 t) (hTable : TableR w w.heap.size b0 b1 b2 b3 b) (hQuery : QueryR w w.heap.size c0 c1 c2 c3 c4 c5 d) (fTree : t.fine) (fTable : b.fine) (fQuery : d.fine) :
    Calls Tryz.prog 4 #[.agg #[a0], .agg #[b0, b1, b2, b3], .agg #[c0, c1, c2, c3, c4, c5]] w fun e w' => e = .returned (.bool true) ∧ Below w.heap.size w w' := by
  have HTAB := Lib.hid htab
  have HRTree := Lib.hid (fun W (hW : Below w.heap.size w W) => hTree.later hW)
  have HSZTree := Lib.hid (fun (x : Int) (h0 : 0 ≤ x) (h1 : x ≤ 1048576) W (hW : Below w.heap.size w W) => szTree_any a0 t x W (hTree.later hW) fTree h0 h1)
  have HGOTree := Lib.hid (szTree_good t)
  have HSMTree := Lib.hid (szTree_small t)
  have HRTable := Lib.hid (fun W (hW : Below w.heap.size w W) => hTable.later hW)
  have HSZTable := Lib.hid (fun (x : Int) (h0 : 0 ≤ x) (h1 : x ≤ 1048576) W (hW : Below w.heap.size w W) => szTable_any b0 b1 b2 b3 b x W (hTable.later hW) fTable h0 h1)
  have HGOTable := Lib.hid (szTable_good b)
  have HSMTable := Lib.hid (szTable_small b)
  have HRQuery := Lib.hid (fun W (hW : Below w.heap.size w W) => hQuery.later hW)
  have HSZQuery := Lib.hid (fun (x : Int) (h0 : 0 ≤ x) (h1 : x ≤ 1048576) W (hW : Below w.heap.size w W) => szQuery_any c0 c1 c2 c3 c4 c5 d x W (hQuery.later hW) fQuery h0 h1)
  have HGOQuery := Lib.hid (szQuery_good d)
  have HSMQuery := Lib.hid (szQuery_small d)
  obtain ⟨A0, n0, q0, rfl, _, _⟩ := hTree
  obtain ⟨rfl, rfl, ⟨A2, n2, q2, rfl, _, _⟩, ⟨A3, n3, q3, rfl, _, _⟩⟩ := hTable
  obtain ⟨rfl, ⟨B1, m1, r1, rfl, _, _⟩, ⟨B2, m2, r2, rfl, _, _⟩, rfl, rfl, rfl⟩ := hQuery
  clear htab fTree fTable fQuery
  have HWB := Lib.hid (below_new3 w (.cells #[.slice A0 n0 q0] 24) (.cells #[.string b.name, .string b.glob, .slice A2 n2 q2, .slice A3 n3 q3] 27) (.cells #[.string d.table, .slice B1 m1 r1, .slice B2 m2 r2, .string d.order, .bool d.desc, .int .i64 d.limit] 30))
  obtain ⟨WB, hWB⟩ : ∃ WB, WB = ((w.alloc (.cells #[.slice A0 n0 q0] 24)).alloc (.cells #[.string b.name, .string b.glob, .slice A2 n2 q2, .slice A3 n3 q3] 27)).alloc (.cells #[.string d.table, .slice B1 m1 r1, .slice B2 m2 r2, .string d.order, .bool d.desc, .int .i64 d.limit] 30) := ⟨_, rfl⟩
  have HX0 : Hid (Blk WB (w.heap.size) 24 #[.slice A0 n0 q0]) := by subst hWB; exact heap_new0 _ _ _ _
  have HX1 : Hid (Blk WB (w.heap.size + 1) 27 #[.string b.name, .string b.glob, .slice A2 n2 q2, .slice A3 n3 q3]) := by subst hWB; exact heap_new1 _ _ _ _
  have HX2 : Hid (Blk WB (w.heap.size + 1 + 1) 30 #[.string d.table, .slice B1 m1 r1, .slice B2 m2 r2, .string d.order, .bool d.desc, .int .i64 d.limit]) := by subst hWB; exact heap_new2 _ _ _ _
  have HB0 : Hid (Below w.heap.size w WB) := by subst hWB; exact HWB.out
  have HS1 : Hid (∀ W', Below WB.heap.size WB W' → (W'.cell? ⟨w.heap.size, 0, none⟩ = some (.slice A0 n0 q0) ∧ W'.cell? ⟨w.heap.size + 1, 0, none⟩ = some (.string b.name) ∧ W'.cell? ⟨w.heap.size + 1, 1, none⟩ = some (.string b.glob) ∧ W'.cell? ⟨w.heap.size + 1, 2, none⟩ = some (.slice A2 n2 q2) ∧ W'.cell? ⟨w.heap.size + 1, 3, none⟩ = some (.slice A3 n3 q3) ∧ W'.cell? ⟨w.heap.size + 1 + 1, 0, none⟩ = some (.string d.table) ∧ W'.cell? ⟨w.heap.size + 1 + 1, 1, none⟩ = some (.slice B1 m1 r1) ∧ W'.cell? ⟨w.heap.size + 1 + 1, 2, none⟩ = some (.slice B2 m2 r2) ∧ W'.cell? ⟨w.heap.size + 1 + 1, 3, none⟩ = some (.string d.order) ∧ W'.cell? ⟨w.heap.size + 1 + 1, 4, none⟩ = some (.bool d.desc) ∧ W'.cell? ⟨w.heap.size + 1 + 1, 5, none⟩ = some (.int .i64 d.limit))) := fun W' hW => ⟨(HX0.out.later hW HX0.out.lt).at 0 rfl, (HX1.out.later hW HX1.out.lt).at 0 rfl, (HX1.out.later hW HX1.out.lt).at 1 rfl, (HX1.out.later hW HX1.out.lt).at 2 rfl, (HX1.out.later hW HX1.out.lt).at 3 rfl, (HX2.out.later hW HX2.out.lt).at 0 rfl, (HX2.out.later hW HX2.out.lt).at 1 rfl, (HX2.out.later hW HX2.out.lt).at 2 rfl, (HX2.out.later hW HX2.out.lt).at 3 rfl, (HX2.out.later hW HX2.out.lt).at 4 rfl, (HX2.out.later hW HX2.out.lt).at 5 rfl⟩
  have HBW0 : Hid (Below WB.heap.size WB WB) := Below.refl _ _
  go_enter Tryz.func4, Tryz.ntmps4
  go_wp2_with fail
  rw [← hWB]
  clear hWB
  refine (HSZTree.out 1048576 (by omega) (by omega) _ HB0.out).mono ?_
  rintro e w1 ⟨rfl, hb1⟩
  have HB1 := Lib.hid (HB0.out.later hb1)
  have HBW1 := Lib.hid (HBW0.out.later hb1)
  have hg0 := HGOTree.out 1048576 (by omega)
  have HSM0 := Lib.hid (HSMTree.out 1048576 (by omega) (by omega))
  clear hb1 HSZTree HGOTree HSMTree
  generalize szTree t 1048576 = x0 at *
  by_cases hneg0 : x0 < 0
  · go_wp2_with fail
    go_ret
    exact ⟨rfl, HB1.out⟩
  have hS := HS1.out _ HBW1.out
  obtain ⟨s0, s1, s2, s3, s4, s5, s6, s7, s8, s9, s10⟩ := hS
  go_wp2_with fail
  clear s0 s1 s2 s3 s4 s5 s6 s7 s8 s9 s10
  refine (HSZTable.out x0 (by omega) (by omega) _ HB1.out).mono ?_
  rintro e w2 ⟨rfl, hb2⟩
  have HB2 := Lib.hid (HB1.out.later hb2)
  have HBW2 := Lib.hid (HBW1.out.later hb2)
  have hg1 := HGOTable.out x0 (by omega)
  have HSM1 := Lib.hid (HSMTable.out x0 (by omega) (by omega))
  clear hb2 HSZTable HGOTable HSMTable
  generalize szTable b x0 = x1 at *
  by_cases hneg1 : x1 < 0
  · go_wp2_with fail
    go_ret
    exact ⟨rfl, HB2.out⟩
  have hS := HS1.out _ HBW2.out
  obtain ⟨s0, s1, s2, s3, s4, s5, s6, s7, s8, s9, s10⟩ := hS
  go_wp2_with fail
  clear s0 s1 s2 s3 s4 s5 s6 s7 s8 s9 s10
  refine (HSZQuery.out x1 (by omega) (by omega) _ HB2.out).mono ?_
  rintro e w3 ⟨rfl, hb3⟩
  have HB3 := Lib.hid (HB2.out.later hb3)
  have HBW3 := Lib.hid (HBW2.out.later hb3)
  have hg2 := HGOQuery.out x1 (by omega)
  have HSM2 := Lib.hid (HSMQuery.out x1 (by omega) (by omega))
  clear hb3 HSZQuery HGOQuery HSMQuery
  generalize szQuery d x1 = x2 at *
  by_cases hneg2 : x2 < 0
  · go_wp2_with fail
    go_ret
    exact ⟨rfl, HB3.out⟩
  have hS := HS1.out _ HBW3.out
  obtain ⟨s0, s1, s2, s3, s4, s5, s6, s7, s8, s9, s10⟩ := hS
  have hsT := HSM0.out (by omega)
  have hsB := HSM1.out (by omega)
  have hsQ := HSM2.out (by omega)
  have HTO0 := Lib.hid (fun W (hW : Below w.heap.size w W) => toTree_r _ t W (HRTree.out W hW) hsT)
  have HTO1 := Lib.hid (fun W (hW : Below w.heap.size w W) => toTable_r _ _ _ _ b W (HRTable.out W hW) hsB)
  have HTO2 := Lib.hid (fun W (hW : Below w.heap.size w W) => toQuery_r _ _ _ _ _ _ d W (HRQuery.out W hW) hsQ)
  have HSP := Lib.hid (fun W a0 b0 b1 b2 b3 c0 c1 c2 c3 c4 c5 h1 h2 h3 => specRunQuery_r a0 b0 b1 b2 b3 c0 c1 c2 c3 c4 c5 t b d W h1 h2 h3 hsT hsB hsQ)
  have HIM := Lib.hid (fun W (hW : Below w.heap.size w W) a0 b0 b1 b2 b3 c0 c1 c2 c3 c4 c5 h1 h2 h3 => RunQuery_r a0 b0 b1 b2 b3 c0 c1 c2 c3 c4 c5 t b d W (tab_later HTAB.out hW) h1 h2 h3 hsT hsB hsQ)
  have HE0 := Lib.hid (fun W c0 d0 h h' => eqTree_same c0 d0 t W h h' hsT)
  have HE1 := Lib.hid (fun W c0 c1 c2 c3 d0 d1 d2 d3 h h' => eqTable_same c0 c1 c2 c3 d0 d1 d2 d3 b W h h' hsB)
  have HE2 := Lib.hid (fun W c0 c1 c2 c3 c4 c5 d0 d1 d2 d3 d4 d5 h h' => eqQuery_same c0 c1 c2 c3 c4 c5 d0 d1 d2 d3 d4 d5 d W h h' hsQ)
  have HTA0 := Lib.hid (fun W (hW : Below w.heap.size w W) => toTree_any _ t W (HRTree.out W hW) hsT)
  have HTA1 := Lib.hid (fun W (hW : Below w.heap.size w W) => toTable_any _ _ _ _ b W (HRTable.out W hW) hsB)
  have HTA2 := Lib.hid (fun W (hW : Below w.heap.size w W) => toQuery_any _ _ _ _ _ _ d W (HRQuery.out W hW) hsQ)
  have HMK0 := Lib.hid (fun W base k P v vs h h1 h2 h3 => markTree_any base k P v t.nodes vs W h ⟨hsT.1, fun x hx => (hsT.2 x hx).2.1.1⟩ h1 h2 h3)
  have HMK1 := Lib.hid (fun W base k P v2 v3 h2 h3 ha hk hu hv => markTable_any base k P b.name b.glob v2 v3 b.cols b.idx W h2 h3 ha hsB.2.2.1.1 hsB.2.2.2.1 hk hu hv)
  have HMK2 := Lib.hid (fun W base k P v1 v2 vs h1 h2 hvs hk hu hv => markQuery_any base k P d.table d.order d.desc d.limit v1 v2 d.cols d.wher vs W h1 h2 hsQ.2.1.1 hsQ.2.2.1.1 hvs hk hu hv)
  have HFI := Lib.hid (runB_fine (fs := t.nodes) hsB hsQ)
  clear hsT hsB hsQ HSM0 HSM1 HSM2 hg0 hg1 hg2 hneg0 hneg1 HTAB HRTree HRTable HRQuery
  generalize runB t.nodes b d = R at *
  obtain ⟨R1, rs⟩ := R
  have HEQ := Lib.hid (fun W A A' n c n' c' h h' => eqRowS_same A A' n c n' c' rs W h h' HFI.out)
  have HMR := Lib.hid (fun W base P v vs h hu hus => markRowS_any base 1 P v rs vs W h HFI.out (by omega) hu hus)
  have HHR := Lib.hid (fun W A n c hN h => heldRowS_any A n c 1 rs W hN h HFI.out (by omega))
  go_wp2_with fail
  go_region_held3 (fun w' => w'.cell? ⟨w.heap.size, 0, none⟩ = some (.slice A0 n0 q0) ∧ w'.cell? ⟨w.heap.size + 1, 0, none⟩ = some (.string b.name) ∧ w'.cell? ⟨w.heap.size + 1, 1, none⟩ = some (.string b.glob) ∧ w'.cell? ⟨w.heap.size + 1, 2, none⟩ = some (.slice A2 n2 q2) ∧ w'.cell? ⟨w.heap.size + 1, 3, none⟩ = some (.slice A3 n3 q3) ∧ w'.cell? ⟨w.heap.size + 1 + 1, 0, none⟩ = some (.string d.table) ∧ w'.cell? ⟨w.heap.size + 1 + 1, 1, none⟩ = some (.slice B1 m1 r1) ∧ w'.cell? ⟨w.heap.size + 1 + 1, 2, none⟩ = some (.slice B2 m2 r2) ∧ w'.cell? ⟨w.heap.size + 1 + 1, 3, none⟩ = some (.string d.order) ∧ w'.cell? ⟨w.heap.size + 1 + 1, 4, none⟩ = some (.bool d.desc) ∧ w'.cell? ⟨w.heap.size + 1 + 1, 5, none⟩ = some (.int .i64 d.limit)) (first | exact HS1.out _ (HBW3.out.later hb13) | exact HS1.out _ (HBW3.out.later hb12) | exact HS1.out _ (HBW3.out.later hb11) | exact HS1.out _ (HBW3.out.later hb10) | exact HS1.out _ HBW3.out.drew)
    (first
      | (go_at_call 11; refine (HTO0.out _ (by exact HB3.out.drew)).mono ?_; rintro e w10 ⟨t0, rfl, hr10, hb10'⟩; have hb10 := undrew hb10'; have HR10 := Lib.hid hr10; clear hr10 hb10')
      | (go_at_call 12; refine (HTO1.out _ (by exact HB3.out.later hb10)).mono ?_; rintro e w11 ⟨u0, u1, u2, u3, rfl, hr11, hb11'⟩; have hb11 := hb10.later hb11'; have HR11 := Lib.hid hr11; have HR10 := Lib.hid (HR10.out.later hb11'); clear hr11 hb11')
      | (go_at_call 13; refine (HTO2.out _ (by exact HB3.out.later hb11)).mono ?_; rintro e w12 ⟨y0, y1, y2, y3, y4, y5, rfl, hr12, hb12'⟩; have hb12 := hb11.later hb12'; have HR12 := Lib.hid hr12; have HR10 := Lib.hid (HR10.out.later hb12'); have HR11 := Lib.hid (HR11.out.later hb12'); clear hr12 hb12')
      | (go_at_call 19; refine (HSP.out _ _ _ _ _ _ _ _ _ _ _ _ HR10.out HR11.out HR12.out).mono ?_; rintro e w13 ⟨rv, rfl, hro, hb13'⟩; have hb13 := hb12.later hb13'; obtain ⟨RA, rcap, rfl, _, hrd⟩ := rowsI_rd hro; have HRD13 := Lib.hid hrd; clear hb13' hro hrd))
  obtain ⟨ws, hws⟩ : ∃ ws, ws = w13 := ⟨_, rfl⟩
  have HZB : Hid (w.heap.size + 3 ≤ ws.heap.size ∧ WB.heap.size ≤ ws.heap.size) := by subst hws; have h1 := hb13.size; have h2 := HBW3.out.size; have h3 := HX2.out.lt; exact ⟨by omega, by omega⟩
  rw [← hws] at hb13 HRD13
  have HB4 := Lib.hid (HB3.out.later hb13)
  have HBW4 := Lib.hid (HBW3.out.later hb13)
  have HBS4 : Hid (Below ws.heap.size ws ws) := Below.refl _ _
  clear hb10 hb11 hb12 hb13 HR10 HR11 HR12
  clear s0 s1 s2 s3 s4 s5 s6 s7 s8 s9 s10
  obtain ⟨s0, s1, s2, s3, s4, s5, s6, s7, s8, s9, s10⟩ := HS1.out _ HBW4.out
  go_wp2_with fail
  rw [← hws]
  clear hws
  refine (HTA0.out _ HB4.out).mono ?_
  rintro e v0 ⟨t0, tvs, rfl, hO, hb⟩
  have HP0 := Lib.hid (hO.inP (P := fun g => ws.heap.size ≤ g ∧ g < v0.heap.size) (fun g h1 h2 => ⟨h1, h2⟩))
  obtain ⟨X0, xq0, rfl, hxc, hN⟩ := OwnL.Nodes hO
  have HRX0 : Hid (TreeR v0 v0.heap.size (.slice X0 t.nodes.length xq0) t) := ⟨X0, _, xq0, rfl, hN, hxc⟩
  clear hN hxc
  have HQ0 : Hid (Blk (v0.alloc (.cells #[.slice X0 t.nodes.length xq0] 41)) v0.heap.size 41 #[.slice X0 t.nodes.length xq0]) := heap_last rfl
  have hbn := hb.later (Below.new v0 (.cells #[.slice X0 t.nodes.length xq0] 41))
  have HV0 : Hid (ws.heap.size ≤ v0.heap.size) := by unfold Hid; have h1 := hb.size; simpa using h1
  have HB5 := Lib.hid (HB4.out.later hbn)
  have HBW5 := Lib.hid (HBW4.out.later hbn)
  have HBS5 := Lib.hid (HBS4.out.later hbn)
  have HRX0 := Lib.hid (HRX0.out.later (Below.new v0 (.cells #[.slice X0 t.nodes.length xq0] 41)))
  have HO0 := Lib.hid (hO.later (Below.new v0 (.cells #[.slice X0 t.nodes.length xq0] 41)))
  clear hb hbn hO HTA0 s0 s1 s2 s3 s4 s5 s6 s7 s8 s9 s10
  obtain ⟨s0, s1, s2, s3, s4, s5, s6, s7, s8, s9, s10⟩ := HS1.out _ HBW5.out
  go_wp2_with fail
  refine (HTA1.out _ HB5.out).mono ?_
  rintro e v1 ⟨u2, u3, rfl, hO2, hO3, hap, hb⟩
  have HP1 : Hid (Own.inP (fun g => v0.heap.size + 1 ≤ g ∧ g < v1.heap.size) u2 ∧ Own.inP (fun g => v0.heap.size + 1 ≤ g ∧ g < v1.heap.size) u3) := ⟨Own.inP_of hO2 (fun g h1 h2 => ⟨by simpa using h1, h2⟩), Own.inP_of hO3 (fun g h1 h2 => ⟨by simpa using h1, h2⟩)⟩
  obtain ⟨X2, xq2, rfl, hc2, hN2⟩ := hO2.strs
  obtain ⟨X3, xq3, rfl, hc3, hN3⟩ := hO3.strs
  have HRX1 : Hid (TableR v1 v1.heap.size (.string b.name) (.string b.glob) (.slice X2 b.cols.length xq2) (.slice X3 b.idx.length xq3) b) := ⟨rfl, rfl, ⟨X2, _, xq2, rfl, hN2, hc2⟩, ⟨X3, _, xq3, rfl, hN3, hc3⟩⟩
  have HAP := Lib.hid hap
  clear hN2 hc2 hN3 hc3 hap
  have HQ1 : Hid (Blk (v1.alloc (.cells #[.string b.name, .string b.glob, .slice X2 b.cols.length xq2, .slice X3 b.idx.length xq3] 43)) v1.heap.size 43 #[.string b.name, .string b.glob, .slice X2 b.cols.length xq2, .slice X3 b.idx.length xq3]) := heap_last rfl
  have hbn := hb.later (Below.new v1 (.cells #[.string b.name, .string b.glob, .slice X2 b.cols.length xq2, .slice X3 b.idx.length xq3] 43))
  have HV1 : Hid (v0.heap.size + 1 ≤ v1.heap.size) := by unfold Hid; have h1 := hb.size; simpa using h1
  have HB6 := Lib.hid (HB5.out.later hbn)
  have HBW6 := Lib.hid (HBW5.out.later hbn)
  have HBS6 := Lib.hid (HBS5.out.later hbn)
  have HQ0 := Lib.hid (HQ0.out.later hbn HQ0.out.lt)
  have HRX0 := Lib.hid (HRX0.out.later hbn)
  have HO0 := Lib.hid (HO0.out.later hbn)
  have HRX1 := Lib.hid (HRX1.out.later (Below.new v1 (.cells #[.string b.name, .string b.glob, .slice X2 b.cols.length xq2, .slice X3 b.idx.length xq3] 43)))
  have HO2 := Lib.hid (Own.own_later hO2 (Below.new v1 (.cells #[.string b.name, .string b.glob, .slice X2 b.cols.length xq2, .slice X3 b.idx.length xq3] 43)))
  have HO3 := Lib.hid (Own.own_later hO3 (Below.new v1 (.cells #[.string b.name, .string b.glob, .slice X2 b.cols.length xq2, .slice X3 b.idx.length xq3] 43)))
  clear hb hbn hO2 hO3 HTA1 s0 s1 s2 s3 s4 s5 s6 s7 s8 s9 s10
  obtain ⟨s0, s1, s2, s3, s4, s5, s6, s7, s8, s9, s10⟩ := HS1.out _ HBW6.out
  go_wp2_with fail
  refine (HTA2.out _ HB6.out).mono ?_
  rintro e v2 ⟨y1, y2, yvs, rfl, hO4, hO5', hb⟩
  have hO5 := cond_nil hO5'
  have HP2 : Hid (Own.inP (fun g => v1.heap.size + 1 ≤ g ∧ g < v2.heap.size) y1 ∧ Own.inP (fun g => v1.heap.size + 1 ≤ g ∧ g < v2.heap.size) y2) := ⟨Own.inP_of hO4 (fun g h1 h2 => ⟨by simpa using h1, h2⟩), (hO5.inP (fun g h1 h2 => ⟨by simpa using h1, h2⟩)).1⟩
  obtain ⟨X4, xq4, rfl, hc4, hN4⟩ := hO4.strs
  obtain ⟨X5, xq5, rfl, hc5, hN5⟩ := OwnL.Conds hO5
  have HRX2 : Hid (QueryR v2 v2.heap.size (.string d.table) (.slice X4 d.cols.length xq4) (.slice X5 d.wher.length xq5) (.string d.order) (.bool d.desc) (.int .i64 d.limit) d) := ⟨rfl, ⟨X4, _, xq4, rfl, hN4, hc4⟩, ⟨X5, _, xq5, rfl, hN5, hc5⟩, rfl, rfl, rfl⟩
  clear hN4 hc4 hN5 hc5 hO5'
  have HQ2 : Hid (Blk (v2.alloc (.cells #[.string d.table, .slice X4 d.cols.length xq4, .slice X5 d.wher.length xq5, .string d.order, .bool d.desc, .int .i64 d.limit] 47)) v2.heap.size 47 #[.string d.table, .slice X4 d.cols.length xq4, .slice X5 d.wher.length xq5, .string d.order, .bool d.desc, .int .i64 d.limit]) := heap_last rfl
  have hbn := hb.later (Below.new v2 (.cells #[.string d.table, .slice X4 d.cols.length xq4, .slice X5 d.wher.length xq5, .string d.order, .bool d.desc, .int .i64 d.limit] 47))
  have HV2 : Hid (v1.heap.size + 1 ≤ v2.heap.size) := by unfold Hid; have h1 := hb.size; simpa using h1
  have HB7 := Lib.hid (HB6.out.later hbn)
  have HBW7 := Lib.hid (HBW6.out.later hbn)
  have HBS7 := Lib.hid (HBS6.out.later hbn)
  have q00 : v2.cell? ⟨v0.heap.size, 0, none⟩ = some (.slice X0 t.nodes.length xq0) := (HQ0.out.later hb HQ0.out.lt).at 0 rfl
  have q0z := (HQ0.out.later hb HQ0.out.lt).lt
  have q10 : v2.cell? ⟨v1.heap.size, 0, none⟩ = some (.string b.name) := (HQ1.out.later hb HQ1.out.lt).at 0 rfl
  have q11 : v2.cell? ⟨v1.heap.size, 1, none⟩ = some (.string b.glob) := (HQ1.out.later hb HQ1.out.lt).at 1 rfl
  have q12 : v2.cell? ⟨v1.heap.size, 2, none⟩ = some (.slice X2 b.cols.length xq2) := (HQ1.out.later hb HQ1.out.lt).at 2 rfl
  have q13 : v2.cell? ⟨v1.heap.size, 3, none⟩ = some (.slice X3 b.idx.length xq3) := (HQ1.out.later hb HQ1.out.lt).at 3 rfl
  have q1z := (HQ1.out.later hb HQ1.out.lt).lt
  have HQ0 := Lib.hid (HQ0.out.later hbn HQ0.out.lt)
  have HRX0 := Lib.hid (HRX0.out.later hbn)
  have HQ1 := Lib.hid (HQ1.out.later hbn HQ1.out.lt)
  have HRX1 := Lib.hid (HRX1.out.later hbn)
  have HO0 := Lib.hid (HO0.out.later hbn)
  have HO2 := Lib.hid (Own.own_later HO2.out hbn)
  have HO3 := Lib.hid (Own.own_later HO3.out hbn)
  have HRX2 := Lib.hid (HRX2.out.later (Below.new v2 (.cells #[.string d.table, .slice X4 d.cols.length xq4, .slice X5 d.wher.length xq5, .string d.order, .bool d.desc, .int .i64 d.limit] 47)))
  have HO4 := Lib.hid (Own.own_later hO4 (Below.new v2 (.cells #[.string d.table, .slice X4 d.cols.length xq4, .slice X5 d.wher.length xq5, .string d.order, .bool d.desc, .int .i64 d.limit] 47)))
  have HO5 := Lib.hid (hO5.later (Below.new v2 (.cells #[.string d.table, .slice X4 d.cols.length xq4, .slice X5 d.wher.length xq5, .string d.order, .bool d.desc, .int .i64 d.limit] 47)))
  clear hb hbn hO4 hO5 HTA2 s0 s1 s2 s3 s4 s5 s6 s7 s8 s9 s10
  obtain ⟨WX, hWX⟩ : ∃ WX, WX = v2.alloc (.cells #[.string d.table, .slice X4 d.cols.length xq4, .slice X5 d.wher.length xq5, .string d.order, .bool d.desc, .int .i64 d.limit] 47) := ⟨_, rfl⟩
  have HVX : Hid (WX.heap.size = v2.heap.size + 1) := by subst hWX; simp [Hid]
  rw [← hWX] at HB7 HBW7 HBS7 HQ0 HQ1 HQ2 HRX0 HRX1 HRX2 HO0 HO2 HO3 HO4 HO5
  have HS2 : Hid (∀ W', Below WX.heap.size WX W' → (W'.cell? ⟨v0.heap.size, 0, none⟩ = some (.slice X0 t.nodes.length xq0) ∧ W'.cell? ⟨v1.heap.size, 0, none⟩ = some (.string b.name) ∧ W'.cell? ⟨v1.heap.size, 1, none⟩ = some (.string b.glob) ∧ W'.cell? ⟨v1.heap.size, 2, none⟩ = some (.slice X2 b.cols.length xq2) ∧ W'.cell? ⟨v1.heap.size, 3, none⟩ = some (.slice X3 b.idx.length xq3) ∧ W'.cell? ⟨v2.heap.size, 0, none⟩ = some (.string d.table) ∧ W'.cell? ⟨v2.heap.size, 1, none⟩ = some (.slice X4 d.cols.length xq4) ∧ W'.cell? ⟨v2.heap.size, 2, none⟩ = some (.slice X5 d.wher.length xq5) ∧ W'.cell? ⟨v2.heap.size, 3, none⟩ = some (.string d.order) ∧ W'.cell? ⟨v2.heap.size, 4, none⟩ = some (.bool d.desc) ∧ W'.cell? ⟨v2.heap.size, 5, none⟩ = some (.int .i64 d.limit))) := fun W' hW => ⟨(HQ0.out.later hW HQ0.out.lt).at 0 rfl, (HQ1.out.later hW HQ1.out.lt).at 0 rfl, (HQ1.out.later hW HQ1.out.lt).at 1 rfl, (HQ1.out.later hW HQ1.out.lt).at 2 rfl, (HQ1.out.later hW HQ1.out.lt).at 3 rfl, (HQ2.out.later hW HQ2.out.lt).at 0 rfl, (HQ2.out.later hW HQ2.out.lt).at 1 rfl, (HQ2.out.later hW HQ2.out.lt).at 2 rfl, (HQ2.out.later hW HQ2.out.lt).at 3 rfl, (HQ2.out.later hW HQ2.out.lt).at 4 rfl, (HQ2.out.later hW HQ2.out.lt).at 5 rfl⟩
  have HBX7 : Hid (Below WX.heap.size WX WX) := Below.refl _ _
  go_wp2_with fail
  rw [← hWX]
  clear hWX q00 q0z q10 q11 q12 q13 q1z
  refine (HIM.out _ HB7.out _ _ _ _ _ _ _ _ _ _ _ HRX0.out HRX1.out HRX2.out).mono ?_
  rintro e wg ⟨gv, rfl, ⟨gvs, hgo⟩, hbg⟩
  have HPG := Lib.hid (hgo.inP (P := fun g => WX.heap.size ≤ g ∧ g < wg.heap.size) (fun g h1 h2 => ⟨h1, h2⟩))
  have HVG := Lib.hid hbg.size
  obtain ⟨GA, gcap, rfl, _, _⟩ := rowsI_rd ⟨gvs, hgo⟩
  have HOG := Lib.hid hgo
  have HB8 := Lib.hid (HB7.out.later hbg)
  have HBW8 := Lib.hid (HBW7.out.later hbg)
  have HBS8 := Lib.hid (HBS7.out.later hbg)
  have HBX8 := Lib.hid (HBX7.out.later hbg)
  have HBG8 : Hid (Below wg.heap.size wg wg) := Below.refl _ _
  clear hbg hgo
  go_wp2_with fail
  refine (HEQ.out _ _ _ _ _ _ _ ?eqa1 ?eqb1).mono ?_
  case eqa1 => first | exact (by obtain ⟨_, _, e, _, hx⟩ := rowsI_rd ⟨_, (HOG.out.later HBG8.out)⟩; cases e; exact hx) | exact HRD13.out.later HBS8.out
  case eqb1 => first | exact (by obtain ⟨_, _, e, _, hx⟩ := rowsI_rd ⟨_, (HOG.out.later HBG8.out)⟩; cases e; exact hx) | exact HRD13.out.later HBS8.out
  rintro e w48 ⟨rfl, hb48⟩
  have HB9 := Lib.hid (HB8.out.later hb48)
  have HBW9 := Lib.hid (HBW8.out.later hb48)
  have HBS9 := Lib.hid (HBS8.out.later hb48)
  have HBX9 := Lib.hid (HBX8.out.later hb48)
  have HBG9 := Lib.hid (HBG8.out.later hb48)
  clear hb48
  obtain ⟨s0, s1, s2, s3, s4, s5, s6, s7, s8, s9, s10⟩ := HS1.out _ HBW9.out
  obtain ⟨g0, g1, g2, g3, g4, g5, g6, g7, g8, g9, g10⟩ := HS2.out _ HBX9.out
  go_wp2_with fail
  go_region_held3 (fun w' => (w'.cell? ⟨w.heap.size, 0, none⟩ = some (.slice A0 n0 q0) ∧ w'.cell? ⟨w.heap.size + 1, 0, none⟩ = some (.string b.name) ∧ w'.cell? ⟨w.heap.size + 1, 1, none⟩ = some (.string b.glob) ∧ w'.cell? ⟨w.heap.size + 1, 2, none⟩ = some (.slice A2 n2 q2) ∧ w'.cell? ⟨w.heap.size + 1, 3, none⟩ = some (.slice A3 n3 q3) ∧ w'.cell? ⟨w.heap.size + 1 + 1, 0, none⟩ = some (.string d.table) ∧ w'.cell? ⟨w.heap.size + 1 + 1, 1, none⟩ = some (.slice B1 m1 r1) ∧ w'.cell? ⟨w.heap.size + 1 + 1, 2, none⟩ = some (.slice B2 m2 r2) ∧ w'.cell? ⟨w.heap.size + 1 + 1, 3, none⟩ = some (.string d.order) ∧ w'.cell? ⟨w.heap.size + 1 + 1, 4, none⟩ = some (.bool d.desc) ∧ w'.cell? ⟨w.heap.size + 1 + 1, 5, none⟩ = some (.int .i64 d.limit)) ∧ (w'.cell? ⟨v0.heap.size, 0, none⟩ = some (.slice X0 t.nodes.length xq0) ∧ w'.cell? ⟨v1.heap.size, 0, none⟩ = some (.string b.name) ∧ w'.cell? ⟨v1.heap.size, 1, none⟩ = some (.string b.glob) ∧ w'.cell? ⟨v1.heap.size, 2, none⟩ = some (.slice X2 b.cols.length xq2) ∧ w'.cell? ⟨v1.heap.size, 3, none⟩ = some (.slice X3 b.idx.length xq3) ∧ w'.cell? ⟨v2.heap.size, 0, none⟩ = some (.string d.table) ∧ w'.cell? ⟨v2.heap.size, 1, none⟩ = some (.slice X4 d.cols.length xq4) ∧ w'.cell? ⟨v2.heap.size, 2, none⟩ = some (.slice X5 d.wher.length xq5) ∧ w'.cell? ⟨v2.heap.size, 3, none⟩ = some (.string d.order) ∧ w'.cell? ⟨v2.heap.size, 4, none⟩ = some (.bool d.desc) ∧ w'.cell? ⟨v2.heap.size, 5, none⟩ = some (.int .i64 d.limit))) (first | exact ⟨HS1.out _ (HBW9.out.later hb61), HS2.out _ (HBX9.out.later hb61)⟩ | exact ⟨HS1.out _ (HBW9.out.later hb60), HS2.out _ (HBX9.out.later hb60)⟩ | exact ⟨HS1.out _ HBW9.out.drew, HS2.out _ HBX9.out.drew⟩)
    (first
      | (go_at_call 11; refine (HTO0.out _ (by exact HB9.out.drew)).mono ?_; rintro e w60 ⟨t0, rfl, hr60, hb60'⟩; have hb60 := undrew hb60'; have HR60 := Lib.hid hr60; clear hr60 hb60')
      | (go_at_call 16; refine (HE0.out _ _ _ (by exact HRX0.out.later (HBX9.out.later hb60)) HR60.out).mono ?_; rintro e w61 ⟨rfl, hb61'⟩; have hb61 := hb60.later hb61'; clear hb61'))
  have HB10 := Lib.hid (HB9.out.later hb61)
  have HBW10 := Lib.hid (HBW9.out.later hb61)
  have HBS10 := Lib.hid (HBS9.out.later hb61)
  have HBX10 := Lib.hid (HBX9.out.later hb61)
  have HBG10 := Lib.hid (HBG9.out.later hb61)
  clear hb60 hb61 HR60 s0 s1 s2 s3 s4 s5 s6 s7 s8 s9 s10 g0 g1 g2 g3 g4 g5 g6 g7 g8 g9 g10
  obtain ⟨s0, s1, s2, s3, s4, s5, s6, s7, s8, s9, s10⟩ := HS1.out _ HBW10.out
  obtain ⟨g0, g1, g2, g3, g4, g5, g6, g7, g8, g9, g10⟩ := HS2.out _ HBX10.out
  go_wp2_with fail
  go_region_held3 (fun w' => (w'.cell? ⟨w.heap.size, 0, none⟩ = some (.slice A0 n0 q0) ∧ w'.cell? ⟨w.heap.size + 1, 0, none⟩ = some (.string b.name) ∧ w'.cell? ⟨w.heap.size + 1, 1, none⟩ = some (.string b.glob) ∧ w'.cell? ⟨w.heap.size + 1, 2, none⟩ = some (.slice A2 n2 q2) ∧ w'.cell? ⟨w.heap.size + 1, 3, none⟩ = some (.slice A3 n3 q3) ∧ w'.cell? ⟨w.heap.size + 1 + 1, 0, none⟩ = some (.string d.table) ∧ w'.cell? ⟨w.heap.size + 1 + 1, 1, none⟩ = some (.slice B1 m1 r1) ∧ w'.cell? ⟨w.heap.size + 1 + 1, 2, none⟩ = some (.slice B2 m2 r2) ∧ w'.cell? ⟨w.heap.size + 1 + 1, 3, none⟩ = some (.string d.order) ∧ w'.cell? ⟨w.heap.size + 1 + 1, 4, none⟩ = some (.bool d.desc) ∧ w'.cell? ⟨w.heap.size + 1 + 1, 5, none⟩ = some (.int .i64 d.limit)) ∧ (w'.cell? ⟨v0.heap.size, 0, none⟩ = some (.slice X0 t.nodes.length xq0) ∧ w'.cell? ⟨v1.heap.size, 0, none⟩ = some (.string b.name) ∧ w'.cell? ⟨v1.heap.size, 1, none⟩ = some (.string b.glob) ∧ w'.cell? ⟨v1.heap.size, 2, none⟩ = some (.slice X2 b.cols.length xq2) ∧ w'.cell? ⟨v1.heap.size, 3, none⟩ = some (.slice X3 b.idx.length xq3) ∧ w'.cell? ⟨v2.heap.size, 0, none⟩ = some (.string d.table) ∧ w'.cell? ⟨v2.heap.size, 1, none⟩ = some (.slice X4 d.cols.length xq4) ∧ w'.cell? ⟨v2.heap.size, 2, none⟩ = some (.slice X5 d.wher.length xq5) ∧ w'.cell? ⟨v2.heap.size, 3, none⟩ = some (.string d.order) ∧ w'.cell? ⟨v2.heap.size, 4, none⟩ = some (.bool d.desc) ∧ w'.cell? ⟨v2.heap.size, 5, none⟩ = some (.int .i64 d.limit))) (first | exact ⟨HS1.out _ (HBW10.out.later hb63), HS2.out _ (HBX10.out.later hb63)⟩ | exact ⟨HS1.out _ (HBW10.out.later hb62), HS2.out _ (HBX10.out.later hb62)⟩ | exact ⟨HS1.out _ HBW10.out.drew, HS2.out _ HBX10.out.drew⟩)
    (first
      | (go_at_call 12; refine (HTO1.out _ (by exact HB10.out.drew)).mono ?_; rintro e w62 ⟨u0, u1, u2, u3, rfl, hr62, hb62'⟩; have hb62 := undrew hb62'; have HR62 := Lib.hid hr62; clear hr62 hb62')
      | (go_at_call 17; refine (HE1.out _ _ _ _ _ _ _ _ _ (by exact HRX1.out.later (HBX10.out.later hb62)) HR62.out).mono ?_; rintro e w63 ⟨rfl, hb63'⟩; have hb63 := hb62.later hb63'; clear hb63'))
  have HB11 := Lib.hid (HB10.out.later hb63)
  have HBW11 := Lib.hid (HBW10.out.later hb63)
  have HBS11 := Lib.hid (HBS10.out.later hb63)
  have HBX11 := Lib.hid (HBX10.out.later hb63)
  have HBG11 := Lib.hid (HBG10.out.later hb63)
  clear hb62 hb63 HR62 s0 s1 s2 s3 s4 s5 s6 s7 s8 s9 s10 g0 g1 g2 g3 g4 g5 g6 g7 g8 g9 g10
  obtain ⟨s0, s1, s2, s3, s4, s5, s6, s7, s8, s9, s10⟩ := HS1.out _ HBW11.out
  obtain ⟨g0, g1, g2, g3, g4, g5, g6, g7, g8, g9, g10⟩ := HS2.out _ HBX11.out
  go_wp2_with fail
  go_region_held3 (fun w' => (w'.cell? ⟨w.heap.size, 0, none⟩ = some (.slice A0 n0 q0) ∧ w'.cell? ⟨w.heap.size + 1, 0, none⟩ = some (.string b.name) ∧ w'.cell? ⟨w.heap.size + 1, 1, none⟩ = some (.string b.glob) ∧ w'.cell? ⟨w.heap.size + 1, 2, none⟩ = some (.slice A2 n2 q2) ∧ w'.cell? ⟨w.heap.size + 1, 3, none⟩ = some (.slice A3 n3 q3) ∧ w'.cell? ⟨w.heap.size + 1 + 1, 0, none⟩ = some (.string d.table) ∧ w'.cell? ⟨w.heap.size + 1 + 1, 1, none⟩ = some (.slice B1 m1 r1) ∧ w'.cell? ⟨w.heap.size + 1 + 1, 2, none⟩ = some (.slice B2 m2 r2) ∧ w'.cell? ⟨w.heap.size + 1 + 1, 3, none⟩ = some (.string d.order) ∧ w'.cell? ⟨w.heap.size + 1 + 1, 4, none⟩ = some (.bool d.desc) ∧ w'.cell? ⟨w.heap.size + 1 + 1, 5, none⟩ = some (.int .i64 d.limit)) ∧ (w'.cell? ⟨v0.heap.size, 0, none⟩ = some (.slice X0 t.nodes.length xq0) ∧ w'.cell? ⟨v1.heap.size, 0, none⟩ = some (.string b.name) ∧ w'.cell? ⟨v1.heap.size, 1, none⟩ = some (.string b.glob) ∧ w'.cell? ⟨v1.heap.size, 2, none⟩ = some (.slice X2 b.cols.length xq2) ∧ w'.cell? ⟨v1.heap.size, 3, none⟩ = some (.slice X3 b.idx.length xq3) ∧ w'.cell? ⟨v2.heap.size, 0, none⟩ = some (.string d.table) ∧ w'.cell? ⟨v2.heap.size, 1, none⟩ = some (.slice X4 d.cols.length xq4) ∧ w'.cell? ⟨v2.heap.size, 2, none⟩ = some (.slice X5 d.wher.length xq5) ∧ w'.cell? ⟨v2.heap.size, 3, none⟩ = some (.string d.order) ∧ w'.cell? ⟨v2.heap.size, 4, none⟩ = some (.bool d.desc) ∧ w'.cell? ⟨v2.heap.size, 5, none⟩ = some (.int .i64 d.limit))) (first | exact ⟨HS1.out _ (HBW11.out.later hb65), HS2.out _ (HBX11.out.later hb65)⟩ | exact ⟨HS1.out _ (HBW11.out.later hb64), HS2.out _ (HBX11.out.later hb64)⟩ | exact ⟨HS1.out _ HBW11.out.drew, HS2.out _ HBX11.out.drew⟩)
    (first
      | (go_at_call 13; refine (HTO2.out _ (by exact HB11.out.drew)).mono ?_; rintro e w64 ⟨y0, y1, y2, y3, y4, y5, rfl, hr64, hb64'⟩; have hb64 := undrew hb64'; have HR64 := Lib.hid hr64; clear hr64 hb64')
      | (go_at_call 18; refine (HE2.out _ _ _ _ _ _ _ _ _ _ _ _ _ (by exact HRX2.out.later (HBX11.out.later hb64)) HR64.out).mono ?_; rintro e w65 ⟨rfl, hb65'⟩; have hb65 := hb64.later hb65'; clear hb65'))
  have HB12 := Lib.hid (HB11.out.later hb65)
  have HBW12 := Lib.hid (HBW11.out.later hb65)
  have HBS12 := Lib.hid (HBS11.out.later hb65)
  have HBX12 := Lib.hid (HBX11.out.later hb65)
  have HBG12 := Lib.hid (HBG11.out.later hb65)
  clear hb64 hb65 HR64 s0 s1 s2 s3 s4 s5 s6 s7 s8 s9 s10 g0 g1 g2 g3 g4 g5 g6 g7 g8 g9 g10
  have HZ : Hid (w.heap.size + 3 ≤ ws.heap.size ∧ WB.heap.size ≤ ws.heap.size ∧ ws.heap.size ≤ v0.heap.size ∧ v0.heap.size + 1 ≤ v1.heap.size ∧ v1.heap.size + 1 ≤ v2.heap.size ∧ WX.heap.size = v2.heap.size + 1 ∧ WX.heap.size ≤ wg.heap.size) := ⟨HZB.out.1, HZB.out.2, HV0.out, HV1.out, HV2.out, HVX.out, HVG.out⟩
  have HO0 := Lib.hid (HO0.out.later HBX12.out)
  have HO2 := Lib.hid (Own.own_later HO2.out HBX12.out)
  have HO3 := Lib.hid (Own.own_later HO3.out HBX12.out)
  have HO4 := Lib.hid (Own.own_later HO4.out HBX12.out)
  have HO5 := Lib.hid (HO5.out.later HBX12.out)
  have HOG := Lib.hid (HOG.out.later HBG12.out)
  have HQ0 := Lib.hid (HQ0.out.later HBX12.out HQ0.out.lt)
  have HQ1 := Lib.hid (HQ1.out.later HBX12.out HQ1.out.lt)
  have HQ2 := Lib.hid (HQ2.out.later HBX12.out HQ2.out.lt)
  clear HV0 HV1 HV2 HVX HVG HZB HS2 HE0 HE1 HE2 HRX0 HRX1 HRX2
  have g0 := HQ0.out.at 0 (v := .slice X0 t.nodes.length xq0) rfl
  have gz := HQ0.out.lt
  go_wp2_with fail
  refine (HMK0.out _ _ 1 (fun g => ws.heap.size ≤ g ∧ g < v0.heap.size) _ _ HO0.out (by omega) HP0.out.1 HP0.out.2).mono ?_
  rintro e wn ⟨km0, rfl, hm0, hC⟩
  have HB13 : Hid (Below w.heap.size w wn) := Own.Chg.below HB12.out hC (fun g hg => by obtain ⟨z0, z1, z2, z3, z4, z5, z6⟩ := HZ.out; omega) (Nat.le_refl _)
  have HBW13 : Hid (Below WB.heap.size WB wn) := Own.Chg.below HBW12.out hC (fun g hg => by obtain ⟨z0, z1, z2, z3, z4, z5, z6⟩ := HZ.out; omega) (Nat.le_refl _)
  have HBS13 : Hid (Below ws.heap.size ws wn) := Own.Chg.below HBS12.out hC (fun g hg => by obtain ⟨z0, z1, z2, z3, z4, z5, z6⟩ := HZ.out; omega) (Nat.le_refl _)
  have HQ1 := Lib.hid (Own.Blk.chg HQ1.out hC (by obtain ⟨z0, z1, z2, z3, z4, z5, z6⟩ := HZ.out; omega))
  have HQ2 := Lib.hid (Own.Blk.chg HQ2.out hC (by obtain ⟨z0, z1, z2, z3, z4, z5, z6⟩ := HZ.out; omega))
  have HO2 := Lib.hid (Own.own_chg HO2.out hC (Own.inP_mono HP1.out.1 (fun g hg => by obtain ⟨z0, z1, z2, z3, z4, z5, z6⟩ := HZ.out; omega)))
  have HO3 := Lib.hid (Own.own_chg HO3.out hC (Own.inP_mono HP1.out.2 (fun g hg => by obtain ⟨z0, z1, z2, z3, z4, z5, z6⟩ := HZ.out; omega)))
  have HO4 := Lib.hid (Own.own_chg HO4.out hC (Own.inP_mono HP2.out.1 (fun g hg => by obtain ⟨z0, z1, z2, z3, z4, z5, z6⟩ := HZ.out; omega)))
  have HO5 := Lib.hid (HO5.out.chg hC (Own.inP_mono HP2.out.2 (fun g hg => by obtain ⟨z0, z1, z2, z3, z4, z5, z6⟩ := HZ.out; omega)) (fun u hu g hg => by rw [List.eq_of_mem_replicate hu] at hg; exact absurd hg (by show (none : Option Nat) ≠ some g; simp)))
  have HOG := Lib.hid (HOG.out.chg hC (Own.inP_mono HPG.out.1 (fun g hg => by obtain ⟨z0, z1, z2, z3, z4, z5, z6⟩ := HZ.out; omega)) (fun u hu => Own.inP_mono (HPG.out.2 u hu) (fun g hg => by obtain ⟨z0, z1, z2, z3, z4, z5, z6⟩ := HZ.out; omega)))
  clear hC HO0 HP0 HQ0 HMK0 g0 gz
  obtain ⟨w70, rfl⟩ : ∃ W, W = wn := ⟨wn, rfl⟩
  have g0 := HQ1.out.at 0 (v := .string b.name) rfl
  have g1 := HQ1.out.at 1 (v := .string b.glob) rfl
  have g2 := HQ1.out.at 2 (v := .slice X2 b.cols.length xq2) rfl
  have g3 := HQ1.out.at 3 (v := .slice X3 b.idx.length xq3) rfl
  have gz := HQ1.out.lt
  go_wp2_with fail
  refine (HMK1.out _ _ km0 (fun g => v0.heap.size + 1 ≤ g ∧ g < v1.heap.size) _ _ HO2.out HO3.out HAP.out hm0 HP1.out.1 HP1.out.2).mono ?_
  rintro e wn ⟨km1, rfl, hm1, hC⟩
  have HB14 : Hid (Below w.heap.size w wn) := Own.Chg.below HB13.out hC (fun g hg => by obtain ⟨z0, z1, z2, z3, z4, z5, z6⟩ := HZ.out; omega) (Nat.le_refl _)
  have HBW14 : Hid (Below WB.heap.size WB wn) := Own.Chg.below HBW13.out hC (fun g hg => by obtain ⟨z0, z1, z2, z3, z4, z5, z6⟩ := HZ.out; omega) (Nat.le_refl _)
  have HBS14 : Hid (Below ws.heap.size ws wn) := Own.Chg.below HBS13.out hC (fun g hg => by obtain ⟨z0, z1, z2, z3, z4, z5, z6⟩ := HZ.out; omega) (Nat.le_refl _)
  have HQ2 := Lib.hid (Own.Blk.chg HQ2.out hC (by obtain ⟨z0, z1, z2, z3, z4, z5, z6⟩ := HZ.out; omega))
  have HO4 := Lib.hid (Own.own_chg HO4.out hC (Own.inP_mono HP2.out.1 (fun g hg => by obtain ⟨z0, z1, z2, z3, z4, z5, z6⟩ := HZ.out; omega)))
  have HO5 := Lib.hid (HO5.out.chg hC (Own.inP_mono HP2.out.2 (fun g hg => by obtain ⟨z0, z1, z2, z3, z4, z5, z6⟩ := HZ.out; omega)) (fun u hu g hg => by rw [List.eq_of_mem_replicate hu] at hg; exact absurd hg (by show (none : Option Nat) ≠ some g; simp)))
  have HOG := Lib.hid (HOG.out.chg hC (Own.inP_mono HPG.out.1 (fun g hg => by obtain ⟨z0, z1, z2, z3, z4, z5, z6⟩ := HZ.out; omega)) (fun u hu => Own.inP_mono (HPG.out.2 u hu) (fun g hg => by obtain ⟨z0, z1, z2, z3, z4, z5, z6⟩ := HZ.out; omega)))
  clear hC HO2 HO3 HP1 HQ1 HAP HMK1 hm0 g0 g1 g2 g3 gz
  obtain ⟨w71, rfl⟩ : ∃ W, W = wn := ⟨wn, rfl⟩
  have g0 := HQ2.out.at 0 (v := .string d.table) rfl
  have g1 := HQ2.out.at 1 (v := .slice X4 d.cols.length xq4) rfl
  have g2 := HQ2.out.at 2 (v := .slice X5 d.wher.length xq5) rfl
  have g3 := HQ2.out.at 3 (v := .string d.order) rfl
  have g4 := HQ2.out.at 4 (v := .bool d.desc) rfl
  have g5 := HQ2.out.at 5 (v := .int .i64 d.limit) rfl
  have gz := HQ2.out.lt
  go_wp2_with fail
  refine (HMK2.out _ _ km1 (fun g => v1.heap.size + 1 ≤ g ∧ g < v2.heap.size) _ _ _ HO4.out HO5.out (fun u hu => by rw [List.eq_of_mem_replicate hu]; rfl) (by omega) HP2.out.1 HP2.out.2).mono ?_
  rintro e wn ⟨km2, rfl, hm2, hC⟩
  have HB15 : Hid (Below w.heap.size w wn) := Own.Chg.below HB14.out hC (fun g hg => by obtain ⟨z0, z1, z2, z3, z4, z5, z6⟩ := HZ.out; omega) (Nat.le_refl _)
  have HBW15 : Hid (Below WB.heap.size WB wn) := Own.Chg.below HBW14.out hC (fun g hg => by obtain ⟨z0, z1, z2, z3, z4, z5, z6⟩ := HZ.out; omega) (Nat.le_refl _)
  have HBS15 : Hid (Below ws.heap.size ws wn) := Own.Chg.below HBS14.out hC (fun g hg => by obtain ⟨z0, z1, z2, z3, z4, z5, z6⟩ := HZ.out; omega) (Nat.le_refl _)
  have HOG := Lib.hid (HOG.out.chg hC (Own.inP_mono HPG.out.1 (fun g hg => by obtain ⟨z0, z1, z2, z3, z4, z5, z6⟩ := HZ.out; omega)) (fun u hu => Own.inP_mono (HPG.out.2 u hu) (fun g hg => by obtain ⟨z0, z1, z2, z3, z4, z5, z6⟩ := HZ.out; omega)))
  clear hC HO4 HO5 HP2 HQ2 HMK2 hm1 g0 g1 g2 g3 g4 g5 gz
  obtain ⟨w72, rfl⟩ : ∃ W, W = wn := ⟨wn, rfl⟩
  have hmz : (0 : Int) ≤ (km2 : Int) := by omega
  generalize (km2 : Int) = mz at *
  have hmn : ¬ mz < 0 := by omega
  have hmd : decide (mz < 0) = false := by simp; omega
  clear hm2
  go_wp2_with fail
  refine (HEQ.out _ _ _ _ _ _ _ ?eqa2 ?eqb2).mono ?_
  case eqa2 => first | exact (by obtain ⟨_, _, e, _, hx⟩ := rowsI_rd ⟨_, HOG.out⟩; cases e; exact hx) | exact HRD13.out.later HBS15.out
  case eqb2 => first | exact (by obtain ⟨_, _, e, _, hx⟩ := rowsI_rd ⟨_, HOG.out⟩; cases e; exact hx) | exact HRD13.out.later HBS15.out
  rintro e w73 ⟨rfl, hb73⟩
  have HB16 := Lib.hid (HB15.out.later hb73)
  have HBW16 := Lib.hid (HBW15.out.later hb73)
  have HBS16 := Lib.hid (HBS15.out.later hb73)
  have HOG := Lib.hid (HOG.out.later hb73)
  clear hb73 hmz hmn hmd
  go_wp2_with fail
  refine (HMR.out _ _ (fun g => WX.heap.size ≤ g ∧ g < wg.heap.size) _ _ HOG.out HPG.out.1 HPG.out.2).mono ?_
  rintro e wn ⟨rfl, hO, hC⟩
  have HB17 : Hid (Below w.heap.size w wn) := Own.Chg.below HB16.out hC (fun g hg => by obtain ⟨z0, z1, z2, z3, z4, z5, z6⟩ := HZ.out; omega) (Nat.le_refl _)
  have HBW17 : Hid (Below WB.heap.size WB wn) := Own.Chg.below HBW16.out hC (fun g hg => by obtain ⟨z0, z1, z2, z3, z4, z5, z6⟩ := HZ.out; omega) (Nat.le_refl _)
  have HBS17 : Hid (Below ws.heap.size ws wn) := Own.Chg.below HBS16.out hC (fun g hg => by obtain ⟨z0, z1, z2, z3, z4, z5, z6⟩ := HZ.out; omega) (Nat.le_refl _)
  have HOG := Lib.hid hO
  clear hC hO HPG HMR
  obtain ⟨w74, rfl⟩ : ∃ W, W = wn := ⟨wn, rfl⟩
  have hM0 : (0 : Int) ≤ ((mkAtR rs 1 rs.length : Nat) : Int) := by omega
  go_wp2_with fail
  refine (HHR.out _ _ _ _ rfl (by obtain ⟨_, _, e, _, hx⟩ := rowsI_rd ⟨_, HOG.out⟩; rw [mkRows_len] at e hx; cases e; exact hx)).mono ?_
  rintro e w75 ⟨rfl, hbw75⟩
  have HB18 := Lib.hid (HB17.out.later hbw75)
  have HBW18 := Lib.hid (HBW17.out.later hbw75)
  have HBS18 := Lib.hid (HBS17.out.later hbw75)
  have HOG := Lib.hid (HOG.out.later hbw75)
  clear hbw75
  obtain ⟨M2, hM2⟩ : ∃ M2 : Int, M2 = ((mkAtR rs 1 rs.length : Nat) : Int) := ⟨_, rfl⟩
  have HM2 := Lib.hid hM2
  rw [← hM2] at hM0 ⊢
  have hMn : ¬ M2 < 0 := by omega
  clear hM2
  obtain ⟨s0, s1, s2, s3, s4, s5, s6, s7, s8, s9, s10⟩ := HS1.out _ HBW18.out
  go_wp2_with fail
  go_region_held3 (fun w' => w'.cell? ⟨w.heap.size, 0, none⟩ = some (.slice A0 n0 q0) ∧ w'.cell? ⟨w.heap.size + 1, 0, none⟩ = some (.string b.name) ∧ w'.cell? ⟨w.heap.size + 1, 1, none⟩ = some (.string b.glob) ∧ w'.cell? ⟨w.heap.size + 1, 2, none⟩ = some (.slice A2 n2 q2) ∧ w'.cell? ⟨w.heap.size + 1, 3, none⟩ = some (.slice A3 n3 q3) ∧ w'.cell? ⟨w.heap.size + 1 + 1, 0, none⟩ = some (.string d.table) ∧ w'.cell? ⟨w.heap.size + 1 + 1, 1, none⟩ = some (.slice B1 m1 r1) ∧ w'.cell? ⟨w.heap.size + 1 + 1, 2, none⟩ = some (.slice B2 m2 r2) ∧ w'.cell? ⟨w.heap.size + 1 + 1, 3, none⟩ = some (.string d.order) ∧ w'.cell? ⟨w.heap.size + 1 + 1, 4, none⟩ = some (.bool d.desc) ∧ w'.cell? ⟨w.heap.size + 1 + 1, 5, none⟩ = some (.int .i64 d.limit)) (first | exact HS1.out _ (HBW18.out.later hb83) | exact HS1.out _ (HBW18.out.later hb82) | exact HS1.out _ (HBW18.out.later hb81) | exact HS1.out _ (HBW18.out.later hb80) | exact HS1.out _ HBW18.out.drew)
    (first
      | (go_at_call 11; refine (HTO0.out _ (by exact HB18.out.drew)).mono ?_; rintro e w80 ⟨t0, rfl, hr80, hb80'⟩; have hb80 := undrew hb80'; have HR80 := Lib.hid hr80; clear hr80 hb80')
      | (go_at_call 12; refine (HTO1.out _ (by exact HB18.out.later hb80)).mono ?_; rintro e w81 ⟨u0, u1, u2, u3, rfl, hr81, hb81'⟩; have hb81 := hb80.later hb81'; have HR81 := Lib.hid hr81; have HR80 := Lib.hid (HR80.out.later hb81'); clear hr81 hb81')
      | (go_at_call 13; refine (HTO2.out _ (by exact HB18.out.later hb81)).mono ?_; rintro e w82 ⟨y0, y1, y2, y3, y4, y5, rfl, hr82, hb82'⟩; have hb82 := hb81.later hb82'; have HR82 := Lib.hid hr82; have HR80 := Lib.hid (HR80.out.later hb82'); have HR81 := Lib.hid (HR81.out.later hb82'); clear hr82 hb82')
      | (go_at_call 20; refine (HIM.out _ (by exact HB18.out.later hb82) _ _ _ _ _ _ _ _ _ _ _ HR80.out HR81.out HR82.out).mono ?_; rintro e w83 ⟨rv, rfl, hro, hb83'⟩; have hb83 := hb82.later hb83'; obtain ⟨RA, rcap, rfl, _, hrd⟩ := rowsI_rd hro; have HRD83 := Lib.hid hrd; clear hb83' hro hrd))
  have HB19 := Lib.hid (HB18.out.later hb83)
  have HBW19 := Lib.hid (HBW18.out.later hb83)
  have HBS19 := Lib.hid (HBS18.out.later hb83)
  have HOG := Lib.hid (HOG.out.later hb83)
  clear hb80 hb81 hb82 hb83 HR80 HR81 HR82 s0 s1 s2 s3 s4 s5 s6 s7 s8 s9 s10
  go_wp2_with fail
  refine (HEQ.out _ _ _ _ _ _ _ ?eqa3 ?eqb3).mono ?_
  case eqa3 => first | exact HRD83.out | exact HRD13.out.later HBS19.out
  case eqb3 => first | exact HRD83.out | exact HRD13.out.later HBS19.out
  rintro e w84 ⟨rfl, hb84⟩
  have HB20 := Lib.hid (HB19.out.later hb84)
  have HOG := Lib.hid (HOG.out.later hb84)
  clear hb84
  go_wp2_with fail
  refine (HHR.out _ _ _ _ rfl (by obtain ⟨_, _, e, _, hx⟩ := rowsI_rd ⟨_, HOG.out⟩; rw [mkRows_len] at e hx; cases e; exact hx)).mono ?_
  rintro e w85 ⟨rfl, hb85⟩
  have HB21 := Lib.hid (HB20.out.later hb85)
  rw [← HM2.out]
  clear hb85
  go_wp2_with fail
  go_ret
  exact ⟨rfl, HB21.out⟩
end Go.Proofs.YtalpafaflgddpaaGreatDoor

