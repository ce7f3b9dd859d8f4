/-
  Draws of tables: l29AnyTable. (Printed by gen_dw2.py.)
-/
import Derived.Test.YtfpcjhajjejpdaaGreatDoorZ40
import Derived.Deep.AppendLies
import Derived.Deep.RegionLaw
namespace Go.Proofs.YtfpcjhajjejpdaaGreatDoor
open Go.RowKit
set_option linter.unusedVariables false

theorem TabO.grow2 {w w5 : World} {bs n cap gg H : Nat} {c0 c1 c2 c3 : Value} {d : TableD} {t : ByteArray} (h : TabO w bs c0 c1 c2 c3 d) (hrow : w5.ownsRow bs 9 1 (.slice (some ⟨gg, 0, none⟩) n cap) n (d.cols.map Value.string ++ [.string t])) (hn : n = d.cols.length + 1)
    (hg : w.grownBy w5 c2.ownBlock) (hat : c2.ownBlock = some gg ∨ gg = H) (hH : w.heap.size ≤ H) : TabO w5 bs c0 c1 (.slice (some ⟨gg, 0, none⟩) n cap) c3 { d with cols := d.cols ++ [t] } := by
  subst hn
  refine ⟨h.nm, h.gl, ?_, Own.kept_apart h.idx hg (Own.apart_symm h.ap), ?_⟩
  · show Own.SubO w5 bs _ (d.cols ++ [t])
    unfold Own.SubO
    rw [List.length_append, List.map_append]
    exact hrow
  · cases he : c3.ownBlock with
    | none => exact Own.apart_symm (.inl he)
    | some g =>
      refine .inr ?_
      rw [he]
      show some gg ≠ some g
      rcases hat with h1 | h1
      · rcases h.ap with h2 | h2
        · rw [h2] at h1; cases h1
        · rw [h1, he] at h2; exact h2
      · have := (World.ownsRow.lt h.idx g he).2
        intro e
        injection e with e
        omega
theorem TabO.grow3 {w w5 : World} {bs n cap gg H : Nat} {c0 c1 c2 c3 : Value} {d : TableD} {t : ByteArray} (h : TabO w bs c0 c1 c2 c3 d) (hrow : w5.ownsRow bs 9 1 (.slice (some ⟨gg, 0, none⟩) n cap) n (d.idx.map Value.string ++ [.string t])) (hn : n = d.idx.length + 1)
    (hg : w.grownBy w5 c3.ownBlock) (hat : c3.ownBlock = some gg ∨ gg = H) (hH : w.heap.size ≤ H) : TabO w5 bs c0 c1 c2 (.slice (some ⟨gg, 0, none⟩) n cap) { d with idx := d.idx ++ [t] } := by
  have hx : TabO w bs c0 c1 c3 c2 { d with cols := d.idx, idx := d.cols } := ⟨h.nm, h.gl, h.idx, h.cols, Own.apart_symm h.ap⟩
  have hy := hx.grow2 (t := t) hrow hn hg hat hH
  exact ⟨hy.nm, hy.gl, hy.idx, hy.cols, Own.apart_symm hy.ap⟩
theorem tiny2 {d : TableD} {t : ByteArray} (h : tinyT 4 d) (ht : t.size ≤ 16) : tinyT 5 { d with cols := d.cols ++ [t] } := by
  refine ⟨h.1, h.2.1, ⟨by simp; have := h.2.2.1.1; omega, fun s hs => ?_⟩, ⟨Nat.le_trans h.2.2.2.1 (by decide), h.2.2.2.2⟩⟩
  rcases List.mem_append.1 hs with h1 | h1
  · exact h.2.2.1.2 s h1
  · rw [List.mem_singleton.1 h1]; exact ht
theorem tiny3 {d : TableD} {t : ByteArray} (h : tinyT 4 d) (ht : t.size ≤ 16) : tinyT 5 { d with idx := d.idx ++ [t] } := by
  refine ⟨h.1, h.2.1, ⟨Nat.le_trans h.2.2.1.1 (by decide), h.2.2.1.2⟩, ⟨by simp; have := h.2.2.2.1; omega, fun s hs => ?_⟩⟩
  rcases List.mem_append.1 hs with h1 | h1
  · exact h.2.2.2.2 s h1
  · rw [List.mem_singleton.1 h1]; exact ht
theorem tiny45 {d : TableD} (h : tinyT 4 d) : tinyT 5 d := ⟨h.1, h.2.1, ⟨Nat.le_trans h.2.2.1.1 (by decide), h.2.2.1.2⟩, ⟨Nat.le_trans h.2.2.2.1 (by decide), h.2.2.2.2⟩⟩

set_option maxRecDepth 100000 in
set_option maxHeartbeats 16000000 in
theorem l29AnyTable_any (p K : Nat) (w : World) (h : SrcR w p K) (hK : K ≤ 274877906944) :
    Calls Tryz.prog 41 #[.pointer (some ⟨p, 0, none⟩)] w (TabPost p (K + 6) 5 w) := by
  obtain ⟨i0, hi, hz0, hz1, hz2⟩ := info_parts infoS
  have hpw := h.lt
  obtain ⟨WB, hWB⟩ : ∃ WB, WB = w.alloc (.cells #[.string ⟨#[]⟩, .string ⟨#[]⟩, .slice none 0 0, .slice none 0 0] 29) := ⟨_, rfl⟩
  have HBB : Hid (Below w.heap.size w WB) := by subst hWB; exact Below.new _ _
  have HR0 : Hid (Blk WB w.heap.size 29 #[.string ⟨#[]⟩, .string ⟨#[]⟩, .slice none 0 0, .slice none 0 0]) := by subst hWB; exact heap_alloc_new _ _
  have HK1 := Lib.hid (l29Table_any p K WB (h.later HBB.out) (by omega))
  have hwb := HBB.out.size
  have hwl := HR0.out.lt
  clear h
  go_enter Tryz.func41, Tryz.ntmps41
  go_wp2_with fail
  rw [← hWB]
  clear hWB
  refine HK1.out.mono ?_
  rintro e w1 ⟨c0, c1, c2, c3, d, rfl, hT, htn, hd⟩
  obtain ⟨A2, p2, e2, _, _⟩ := Own.own_slice hT.cols
  obtain ⟨A3, p3, e3, _, _⟩ := Own.own_slice hT.idx
  have e0 := hT.nm
  have e1 := hT.gl
  subst e0 e1 e2 e3
  have HTN := Lib.hid htn
  have HD1 := Lib.hid (hd.pre HBB.out)
  have HT1 := Lib.hid (hT.base hwb)
  have HR1 := Lib.hid (Blk.drawn HR0.out hd (by omega))
  have hw1 := HD1.out.chg.size
  have hw1' : w.heap.size < w1.heap.size := Nat.lt_of_lt_of_le hwl hd.chg.size
  have hcl := htn.2.2.1.1
  have hil := htn.2.2.2.1
  clear hd hT htn HR0 HK1 HBB hwb
  generalize hn2 : d.cols.length = n2 at *
  generalize hn3 : d.idx.length = n3 at *
  have HN2 := Lib.hid hn2
  have HN3 := Lib.hid hn3
  clear hn2 hn3
  obtain ⟨WX, hWX⟩ : ∃ WX, WX = w1.alloc (.cells #[.string d.name, .string d.glob, .slice A2 n2 p2, .slice A3 n3 p3] 29) := ⟨_, rfl⟩
  have HBX : Hid (Below w1.heap.size w1 WX) := by subst hWX; exact Below.new _ _
  have HB2 : Hid (Blk WX w1.heap.size 29 #[.string d.name, .string d.glob, .slice A2 n2 p2, .slice A3 n3 p3]) := by subst hWX; exact heap_alloc_new _ _
  have HR2 := Lib.hid (HR1.out.later HBX.out HR1.out.lt)
  have HD2 := Lib.hid (HD1.out.later HBX.out)
  have HT2 := Lib.hid (HT1.out.later HBX.out)
  have HK2 := Lib.hid (pick_any p (K + 2) 14 WX HD2.out.src (by omega) (by omega))
  clear HBX HR1 HT1 HD1
  go_wp2_with fail
  rw [← hWX]
  clear hWX
  refine HK2.out.mono ?_
  rintro e w2 ⟨x, rfl, hx, hd2⟩
  have HD3 := Lib.hid (HD2.out.trans hd2)
  have HB3 := Lib.hid (Blk.drawn HB2.out hd2 (by omega))
  have HR3 := Lib.hid (Blk.drawn HR2.out hd2 (by omega))
  have HT3 := Lib.hid (HT2.out.drawn HD2.out.src hd2)
  clear hd2 HB2 HR2 HT2 HD2 HK2
  have hw2 := HD3.out.chg.size
  have hbr : w1.heap.size ≠ w.heap.size := by omega
  have b0 := HB3.out.cell 0
  have b1 := HB3.out.cell 1
  have b2 := HB3.out.cell 2
  have b3 := HB3.out.cell 3
  have bz := HB3.out.lt
  have bf1 := HB3.out.frozen 1
  have bf2 := HB3.out.frozen 2
  have bf3 := HB3.out.frozen 3
  have r0 := HR3.out.cell 0
  have r1 := HR3.out.cell 1
  have r2 := HR3.out.cell 2
  have r3 := HR3.out.cell 3
  have rz := HR3.out.lt
  have rf0 := HR3.out.frozen 0
  have rf1 := HR3.out.frozen 1
  have rf2 := HR3.out.frozen 2
  have rf3 := HR3.out.frozen 3
  simp at b0 b1 b2 b3 r0 r1 r2 r3
  by_cases hx0 : x = 0
  · subst hx0
    have HSL := Lib.hid (HD3.out.src.later (Below.new w2 (.cells #[.string ⟨#[105, 100]⟩, .string ⟨#[120]⟩, .string ⟨#[49]⟩, .string ⟨#[121]⟩] 9)))
    have HLL := Lib.hid (strs_lit w2 9 [⟨#[105, 100]⟩, ⟨#[120]⟩, ⟨#[49]⟩, ⟨#[121]⟩] #[.string ⟨#[105, 100]⟩, .string ⟨#[120]⟩, .string ⟨#[49]⟩, .string ⟨#[121]⟩] rfl)
    have HKT := Lib.hid (fun W (h1 : SrcR W p (K + 2 + 2)) (h2 : Strs W W.heap.size (some ⟨w2.heap.size, 0, none⟩) 4 [⟨#[105, 100]⟩, ⟨#[120]⟩, ⟨#[49]⟩, ⟨#[121]⟩]) => text_any p (K + 2 + 2) (some ⟨w2.heap.size, 0, none⟩) 4 4 [⟨#[105, 100]⟩, ⟨#[120]⟩, ⟨#[49]⟩, ⟨#[121]⟩] W h1 (by omega) h2 (by omega) (by omega))
    have l2 := (HB3.out.alloc (.cells #[.string ⟨#[105, 100]⟩, .string ⟨#[120]⟩, .string ⟨#[49]⟩, .string ⟨#[121]⟩] 9)).cell 2
    simp at l2
    go_wp2_with fail
    go_region_law (first
      | (refine step_append_lies _ (by rfl) _ _ _ (by rfl) w.heap.size 9 i0 _ 1 16 Tryz.underlying27 hi hz0 hz1 hz2 rfl (by omega) (.slice A2 n2 p2) n2 (d.cols.map Value.string) (by rfl) (by exact HRA.out)
            ⟨w3.heap.size, 0, none⟩ 1 1 [.string t] (by rfl) (by rfl) (by exact cell_one_new _ _ _) (by simp [Value.oneCell']) (by omega) (by unfold maxLen; omega) (by omega) (by simp; omega) (w3.heap.size + 1) (by simp) ?_
         intro gg cap' w5 hown5 hgrow5 hat hlt2
         have HBY := Lib.hid ((HB4.out.alloc (.cells #[.string t] 9)).grown hgrow5 (fun e => Own.own_blk_ne HRA.out (HB4.out.alloc (.cells #[.string t] 9)) (by decide) e.symm))
         have HRY := Lib.hid ((HR4.out.alloc (.cells #[.string t] 9)).grown hgrow5 (fun e => Own.own_blk_ne HRA.out (HR4.out.alloc (.cells #[.string t] 9)) (by decide) e.symm))
         have HDY := Lib.hid ((HD4.out.later (Below.new w3 (.cells #[.string t] 9))).grown hgrow5 (fun g hg => (HRA.out.lt g hg).1) hpw)
         have HTY := Lib.hid (TabO.grow2 (t := t) (HT4.out.later (Below.new w3 (.cells #[.string t] 9))) hown5 (by rw [HN2.out]) hgrow5 hat (by simp))
         have y0 := HBY.out.cell 0
         have y1 := HBY.out.cell 1
         have y2 := HBY.out.cell 2
         have y3 := HBY.out.cell 3
         have yz := HBY.out.lt
         have yf := HBY.out.frozen 2
         have s0 := HRY.out.cell 0
         have s1 := HRY.out.cell 1
         have s2 := HRY.out.cell 2
         have s3 := HRY.out.cell 3
         have sz := HRY.out.lt
         have sf0 := HRY.out.frozen 0
         have sf1 := HRY.out.frozen 1
         have sf2 := HRY.out.frozen 2
         have sf3 := HRY.out.frozen 3
         simp at y0 y1 y2 y3 s0 s1 s2 s3
         clear hown5 hgrow5)
      | (go_simp
         go_at_call 96
         refine (HKT.out _ (HSL.out.later (Below.refl _ _).drew) (HLL.out.later (Below.refl _ _).drew)).mono ?_
         rintro e w3 ⟨t, ht, rfl, hd3'⟩
         have hd3 := hd3'.pre (Below.refl _ (w2.alloc (.cells #[.string ⟨#[105, 100]⟩, .string ⟨#[120]⟩, .string ⟨#[49]⟩, .string ⟨#[121]⟩] 9))).drew
         have HD4 := Lib.hid ((HD3.out.later (Below.new _ _)).trans hd3)
         have HT4 := Lib.hid ((HT3.out.later (Below.new _ _)).drawn HSL.out hd3)
         have HB4 := Lib.hid (Blk.drawn (HB3.out.alloc (.cells #[.string ⟨#[105, 100]⟩, .string ⟨#[120]⟩, .string ⟨#[49]⟩, .string ⟨#[121]⟩] 9)) hd3 (by omega))
         have HR4 := Lib.hid (Blk.drawn (HR3.out.alloc (.cells #[.string ⟨#[105, 100]⟩, .string ⟨#[120]⟩, .string ⟨#[49]⟩, .string ⟨#[121]⟩] 9)) hd3 (by omega))
         have HT2 : Hid (t.size ≤ 16) := (by decide : ∀ s ∈ ([⟨#[105, 100]⟩, ⟨#[120]⟩, ⟨#[49]⟩, ⟨#[121]⟩] : List ByteArray), s.size ≤ 16) t ht
         have j2 := HB4.out.cell 2
         have j2' := (HB4.out.alloc (.cells #[.string t] 9)).cell 2
         have jz := HB4.out.lt
         have jw := HD4.out.chg.size
         simp at j2 j2'
         have HRA : Hid ((w3.alloc (.cells #[.string t] 9)).ownsRow w.heap.size 9 1 (.slice A2 n2 p2) n2 (d.cols.map Value.string)) := by
           have h := Own.own_later HT4.out.cols (Below.new w3 (.cells #[.string t] 9))
           rw [HN2.out] at h
           exact h
         clear hd3 hd3' ht))
    all_goals
      clear b0 b1 b2 b3 r0 r1 r2 r3
      go_wp2_with fail
      refine bodyPost_ret (v := .agg #[.string d.name, .string d.glob, .slice (some ⟨gg, 0, none⟩) (n2 + 1) cap', .slice A3 n3 p3]) (by simp [results, Tryz.results41, go_sem, s0, s1, s2, s3]) rfl ?_
      have HTE := Lib.hid (tab_end (HTY.out.setBlk HBY.out (by decide) (i := 2) (u := .slice (some ⟨gg, 0, none⟩) (n2 + 1) cap')) (HRY.out.far (p := ⟨w1.heap.size, 2, none⟩) (show w.heap.size ≠ w1.heap.size by omega) (.slice (some ⟨gg, 0, none⟩) (n2 + 1) cap')) (HDY.out.set hw1 hpw 2 (.slice (some ⟨gg, 0, none⟩) (n2 + 1) cap')) hpw (Nat.le_refl _))
      exact ⟨_, _, _, _, _, rfl, (HTE.out _ _ _ _).1, tiny2 HTN.out HT2.out, ((HTE.out _ _ _ _).2).mono (by omega)⟩
  have hb0 : ((x : Int) == 0) = false := by rw [beq_eq_false_iff_ne]; omega
  by_cases hx1 : x = 1
  · subst hx1
    have HSL := Lib.hid (HD3.out.src.later (Below.new w2 (.cells #[.string ⟨#[105, 100]⟩, .string ⟨#[110, 97, 109, 101]⟩, .string ⟨#[100, 114]⟩] 9)))
    have HLL := Lib.hid (strs_lit w2 9 [⟨#[105, 100]⟩, ⟨#[110, 97, 109, 101]⟩, ⟨#[100, 114]⟩] #[.string ⟨#[105, 100]⟩, .string ⟨#[110, 97, 109, 101]⟩, .string ⟨#[100, 114]⟩] rfl)
    have HKT := Lib.hid (fun W (h1 : SrcR W p (K + 2 + 2)) (h2 : Strs W W.heap.size (some ⟨w2.heap.size, 0, none⟩) 3 [⟨#[105, 100]⟩, ⟨#[110, 97, 109, 101]⟩, ⟨#[100, 114]⟩]) => text_any p (K + 2 + 2) (some ⟨w2.heap.size, 0, none⟩) 3 3 [⟨#[105, 100]⟩, ⟨#[110, 97, 109, 101]⟩, ⟨#[100, 114]⟩] W h1 (by omega) h2 (by omega) (by omega))
    have l2 := (HB3.out.alloc (.cells #[.string ⟨#[105, 100]⟩, .string ⟨#[110, 97, 109, 101]⟩, .string ⟨#[100, 114]⟩] 9)).cell 3
    simp at l2
    go_wp2_with fail
    go_region_law (first
      | (refine step_append_lies _ (by rfl) _ _ _ (by rfl) w.heap.size 9 i0 _ 1 16 Tryz.underlying27 hi hz0 hz1 hz2 rfl (by omega) (.slice A3 n3 p3) n3 (d.idx.map Value.string) (by rfl) (by exact HRA.out)
            ⟨w3.heap.size, 0, none⟩ 1 1 [.string t] (by rfl) (by rfl) (by exact cell_one_new _ _ _) (by simp [Value.oneCell']) (by omega) (by unfold maxLen; omega) (by omega) (by simp; omega) (w3.heap.size + 1) (by simp) ?_
         intro gg cap' w5 hown5 hgrow5 hat hlt2
         have HBY := Lib.hid ((HB4.out.alloc (.cells #[.string t] 9)).grown hgrow5 (fun e => Own.own_blk_ne HRA.out (HB4.out.alloc (.cells #[.string t] 9)) (by decide) e.symm))
         have HRY := Lib.hid ((HR4.out.alloc (.cells #[.string t] 9)).grown hgrow5 (fun e => Own.own_blk_ne HRA.out (HR4.out.alloc (.cells #[.string t] 9)) (by decide) e.symm))
         have HDY := Lib.hid ((HD4.out.later (Below.new w3 (.cells #[.string t] 9))).grown hgrow5 (fun g hg => (HRA.out.lt g hg).1) hpw)
         have HTY := Lib.hid (TabO.grow3 (t := t) (HT4.out.later (Below.new w3 (.cells #[.string t] 9))) hown5 (by rw [HN3.out]) hgrow5 hat (by simp))
         have y0 := HBY.out.cell 0
         have y1 := HBY.out.cell 1
         have y2 := HBY.out.cell 2
         have y3 := HBY.out.cell 3
         have yz := HBY.out.lt
         have yf := HBY.out.frozen 3
         have s0 := HRY.out.cell 0
         have s1 := HRY.out.cell 1
         have s2 := HRY.out.cell 2
         have s3 := HRY.out.cell 3
         have sz := HRY.out.lt
         have sf0 := HRY.out.frozen 0
         have sf1 := HRY.out.frozen 1
         have sf2 := HRY.out.frozen 2
         have sf3 := HRY.out.frozen 3
         simp at y0 y1 y2 y3 s0 s1 s2 s3
         clear hown5 hgrow5)
      | (go_simp
         go_at_call 96
         refine (HKT.out _ (HSL.out.later (Below.refl _ _).drew) (HLL.out.later (Below.refl _ _).drew)).mono ?_
         rintro e w3 ⟨t, ht, rfl, hd3'⟩
         have hd3 := hd3'.pre (Below.refl _ (w2.alloc (.cells #[.string ⟨#[105, 100]⟩, .string ⟨#[110, 97, 109, 101]⟩, .string ⟨#[100, 114]⟩] 9))).drew
         have HD4 := Lib.hid ((HD3.out.later (Below.new _ _)).trans hd3)
         have HT4 := Lib.hid ((HT3.out.later (Below.new _ _)).drawn HSL.out hd3)
         have HB4 := Lib.hid (Blk.drawn (HB3.out.alloc (.cells #[.string ⟨#[105, 100]⟩, .string ⟨#[110, 97, 109, 101]⟩, .string ⟨#[100, 114]⟩] 9)) hd3 (by omega))
         have HR4 := Lib.hid (Blk.drawn (HR3.out.alloc (.cells #[.string ⟨#[105, 100]⟩, .string ⟨#[110, 97, 109, 101]⟩, .string ⟨#[100, 114]⟩] 9)) hd3 (by omega))
         have HT2 : Hid (t.size ≤ 16) := (by decide : ∀ s ∈ ([⟨#[105, 100]⟩, ⟨#[110, 97, 109, 101]⟩, ⟨#[100, 114]⟩] : List ByteArray), s.size ≤ 16) t ht
         have j2 := HB4.out.cell 3
         have j2' := (HB4.out.alloc (.cells #[.string t] 9)).cell 3
         have jz := HB4.out.lt
         have jw := HD4.out.chg.size
         simp at j2 j2'
         have HRA : Hid ((w3.alloc (.cells #[.string t] 9)).ownsRow w.heap.size 9 1 (.slice A3 n3 p3) n3 (d.idx.map Value.string)) := by
           have h := Own.own_later HT4.out.idx (Below.new w3 (.cells #[.string t] 9))
           rw [HN3.out] at h
           exact h
         clear hd3 hd3' ht))
    all_goals
      clear b0 b1 b2 b3 r0 r1 r2 r3
      go_wp2_with fail
      refine bodyPost_ret (v := .agg #[.string d.name, .string d.glob, .slice A2 n2 p2, .slice (some ⟨gg, 0, none⟩) (n3 + 1) cap']) (by simp [results, Tryz.results41, go_sem, s0, s1, s2, s3]) rfl ?_
      have HTE := Lib.hid (tab_end (HTY.out.setBlk HBY.out (by decide) (i := 3) (u := .slice (some ⟨gg, 0, none⟩) (n3 + 1) cap')) (HRY.out.far (p := ⟨w1.heap.size, 3, none⟩) (show w.heap.size ≠ w1.heap.size by omega) (.slice (some ⟨gg, 0, none⟩) (n3 + 1) cap')) (HDY.out.set hw1 hpw 3 (.slice (some ⟨gg, 0, none⟩) (n3 + 1) cap')) hpw (Nat.le_refl _))
      exact ⟨_, _, _, _, _, rfl, (HTE.out _ _ _ _).1, tiny3 HTN.out HT2.out, ((HTE.out _ _ _ _).2).mono (by omega)⟩
  have hb1 : ((x : Int) == 1) = false := by rw [beq_eq_false_iff_ne]; omega
  by_cases hx2 : x = 2
  · subst hx2
    have HSL := Lib.hid (HD3.out.src.later (Below.new w2 (.cells #[.string ⟨#[]⟩, .string ⟨#[87, 50]⟩, .string ⟨#[57]⟩] 9)))
    have HKT := Lib.hid (text_any p (K + 2 + 2) (some ⟨w2.heap.size, 0, none⟩) 3 3 [⟨#[]⟩, ⟨#[87, 50]⟩, ⟨#[57]⟩] (w2.alloc (.cells #[.string ⟨#[]⟩, .string ⟨#[87, 50]⟩, .string ⟨#[57]⟩] 9)) HSL.out (by omega) (strs_lit w2 9 [⟨#[]⟩, ⟨#[87, 50]⟩, ⟨#[57]⟩] #[.string ⟨#[]⟩, .string ⟨#[87, 50]⟩, .string ⟨#[57]⟩] rfl) (by omega) (by omega))
    go_wp2_with fail
    refine HKT.out.mono ?_
    rintro e w3 ⟨t, ht, rfl, hd3⟩
    have HD4 := Lib.hid ((HD3.out.later (Below.new _ _)).trans hd3)
    have HT4 := Lib.hid ((HT3.out.later (Below.new _ _)).drawn HSL.out hd3)
    have HBY := Lib.hid (Blk.drawn (HB3.out.alloc (.cells #[.string ⟨#[]⟩, .string ⟨#[87, 50]⟩, .string ⟨#[57]⟩] 9)) hd3 (by omega))
    have HRY := Lib.hid (Blk.drawn (HR3.out.alloc (.cells #[.string ⟨#[]⟩, .string ⟨#[87, 50]⟩, .string ⟨#[57]⟩] 9)) hd3 (by omega))
    have HT2 : Hid (t.size ≤ 16) := (by decide : ∀ s ∈ ([⟨#[]⟩, ⟨#[87, 50]⟩, ⟨#[57]⟩] : List ByteArray), s.size ≤ 16) t ht
    have HTY : Hid (TabO w3 w.heap.size (.string d.name) (.string t) (.slice A2 n2 p2) (.slice A3 n3 p3) { d with glob := t }) := ⟨rfl, rfl, HT4.out.cols, HT4.out.idx, HT4.out.ap⟩
    clear b0 b1 b2 b3 r0 r1 r2 r3 hd3 ht
    have y0 := HBY.out.cell 0
    have y1 := HBY.out.cell 1
    have y2 := HBY.out.cell 2
    have y3 := HBY.out.cell 3
    have yz := HBY.out.lt
    have yf := HBY.out.frozen 1
    have s0 := HRY.out.cell 0
    have s1 := HRY.out.cell 1
    have s2 := HRY.out.cell 2
    have s3 := HRY.out.cell 3
    have sz := HRY.out.lt
    have sf0 := HRY.out.frozen 0
    have sf1 := HRY.out.frozen 1
    have sf2 := HRY.out.frozen 2
    have sf3 := HRY.out.frozen 3
    simp at y0 y1 y2 y3 s0 s1 s2 s3
    go_wp2_with fail
    refine bodyPost_ret (v := .agg #[.string d.name, .string t, .slice A2 n2 p2, .slice A3 n3 p3]) (by simp [results, Tryz.results41, go_sem, s0, s1, s2, s3]) rfl ?_
    have HTE := Lib.hid (tab_end (HTY.out.setBlk HBY.out (by decide) (i := 1) (u := .string t)) (HRY.out.far (p := ⟨w1.heap.size, 1, none⟩) (show w.heap.size ≠ w1.heap.size by omega) (.string t)) (HD4.out.set hw1 hpw 1 (.string t)) hpw (Nat.le_refl _))
    have ht5 := tiny45 HTN.out
    exact ⟨_, _, _, _, _, rfl, (HTE.out _ _ _ _).1, ⟨ht5.1, HT2.out, ht5.2.2⟩, ((HTE.out _ _ _ _).2).mono (by omega)⟩
  have hb2 : ((x : Int) == 2) = false := by rw [beq_eq_false_iff_ne]; omega
  by_cases hx3 : x = 3
  · subst hx3
    have HTE := Lib.hid (tab_end (HT3.out.setBlk HB3.out (by decide) (i := 2) (u := .slice (some ⟨w2.heap.size, 0, none⟩) 0 0)) (HR3.out.far (p := ⟨w1.heap.size, 2, none⟩) (show w.heap.size ≠ w1.heap.size by omega) (.slice (some ⟨w2.heap.size, 0, none⟩) 0 0)) (HD3.out.set hw1 hpw 2 (.slice (some ⟨w2.heap.size, 0, none⟩) 0 0)) hpw (Nat.le_refl _))
    go_wp2_with fail
    refine bodyPost_ret (v := .agg #[.string d.name, .string d.glob, .slice (some ⟨w2.heap.size, 0, none⟩) 0 0, .slice A3 n3 p3]) (by simp [results, Tryz.results41, go_sem, World.cell?_alloc_lt, rz, r0, r1, r2, r3]) rfl ?_
    have ht5 := tiny45 HTN.out
    refine ⟨_, _, _, _, { d with cols := [] }, rfl, ⟨rfl, rfl, ?_, Own.own_later (HTE.out _ _ _ _).1.idx (Below.new _ _), ?_⟩, ⟨ht5.1, ht5.2.1, ⟨by simp, fun s hs => by simp at hs⟩, ht5.2.2.2⟩, ((HTE.out _ _ _ _).2.later (Below.new _ _)).mono (by omega)⟩
    · exact sub_lit2 [] _ (by simp) (by omega) rfl (by decide) rfl
    · have h1 := HT3.out.idx
      cases he : (Value.slice A3 n3 p3).ownBlock with
      | none => exact Own.apart_symm (.inl he)
      | some g =>
        refine .inr ?_
        rw [he]
        have := (World.ownsRow.lt h1 g he).2
        show some w2.heap.size ≠ some g
        intro e
        injection e with e
        omega
  have hb3 : ((x : Int) == 3) = false := by rw [beq_eq_false_iff_ne]; omega
  go_wp2_with fail
  refine bodyPost_ret (v := .agg #[.string d.name, .string d.glob, .slice A2 n2 p2, .slice A3 n3 p3]) (by simp [results, Tryz.results41, go_sem, r0, r1, r2, r3]) rfl ?_
  exact ⟨_, _, _, _, d, rfl, (tab_end HT3.out HR3.out HD3.out hpw (Nat.le_refl _) _ _ _ _).1, tiny45 HTN.out, ((tab_end HT3.out HR3.out HD3.out hpw (Nat.le_refl _) _ _ _ _).2).mono (by omega)⟩
end Go.Proofs.YtfpcjhajjejpdaaGreatDoor
