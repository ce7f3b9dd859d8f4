/-
  Tables of the program: indexNode, indexNodes. (Printed by gen_tw3.py.) Tables of the program: rowNode.
-/
import Derived.Test.YtfpcjhajjejpdaaGreatDoorZ34
import Derived.Test.YtfpcjhajjejpdaaGreatDoorZ36
import Derived.Test.YtfpcjhajjejpdaaGreatDoorZ35
namespace Go.Proofs.YtfpcjhajjejpdaaGreatDoor
open Go.RowKit
set_option linter.unusedVariables false

set_option maxRecDepth 100000 in
set_option maxHeartbeats 4000000 in
theorem indexNode_any (b0 b1 b2 b3 r0 : Value) (b : TableD) (r : List ByteArray) (col : ByteArray) (kind : Int) (w : World) (hb : TableR w w.heap.size b0 b1 b2 b3 b) (h : RowR w w.heap.size r0 r) (hbs : b.small) (hpl : 0 ≤ placeI b.cols col) (hlt : (placeI b.cols col).toNat < r.length) :
    Calls Tryz.prog 87 #[.agg #[b0, b1, b2, b3], .int .i64 kind, .agg #[r0], .string col] w (ChgsOnly (idxC kind b.glob b.cols r col) w) := by
  obtain ⟨k, hk⟩ : ∃ k : Nat, placeI b.cols col = (k : Int) := ⟨(placeI b.cols col).toNat, by omega⟩
  rw [hk, Int.toNat_natCast] at hlt
  have HKC := Lib.hid (fun W (hW : Below w.heap.size w W) => cell_any b0 b1 b2 b3 r0 b r col k W (hb.later hW) (h.later hW) hbs hk hlt)
  obtain ⟨rfl, rfl, ⟨A2, n2, p2, rfl, s2, k2⟩, ⟨A3, n3, p3, rfl, s3, k3⟩⟩ := hb
  obtain ⟨A, n, c, rfl, hs, hnc⟩ := h
  rw [hs.1] at hlt
  obtain ⟨rb, ro, rfl, hrb, hrc⟩ := hs.2 (by omega)
  have hc0 := hrc 0 (by omega)
  rw [Nat.add_zero] at hc0
  have HR : Hid (idxC kind b.glob b.cols r col = if r.getD k ByteArray.empty = ⟨#[]⟩ then [] else [⟨kind, b.glob, [iS, col, r.getD k ByteArray.empty, r.getD 0 ByteArray.empty], ⟨#[]⟩⟩]) := by
    unfold Hid idxC cellAt
    rw [hk]
    rfl
  clear s2 s3 hs hrc hk hbs hpl
  generalize idxC kind b.glob b.cols r col = R at *
  generalize r.getD k ByteArray.empty = v at *
  generalize r.getD 0 ByteArray.empty = key at *
  generalize b.name = nm at *
  generalize b.glob = gl at *
  have hn1 : 0 < n := by omega
  obtain ⟨WB, hWB⟩ : ∃ WB, WB = (w.alloc (.cells #[.string nm, .string gl, .slice A2 n2 p2, .slice A3 n3 p3] 29)).alloc (.cells #[.slice (some ⟨rb, ro, none⟩) n c] 40) := ⟨_, rfl⟩
  have HX0 : Hid (Blk WB w.heap.size 29 #[.string nm, .string gl, .slice A2 n2 p2, .slice A3 n3 p3]) := by subst hWB; exact heap_two0 _ _ _
  have HX1 : Hid (Blk WB (w.heap.size + 1) 40 #[.slice (some ⟨rb, ro, none⟩) n c]) := by subst hWB; exact heap_two1 _ _ _
  have HBB : Hid (Below w.heap.size w WB) := by subst hWB; exact (Below.new _ _).later (Below.new _ _)
  have HS1 : Hid (∀ W', Below WB.heap.size WB W' → (W'.cell? ⟨w.heap.size, 0, none⟩ = some (.string nm) ∧ W'.cell? ⟨w.heap.size, 1, none⟩ = some (.string gl) ∧ W'.cell? ⟨w.heap.size, 2, none⟩ = some (.slice A2 n2 p2) ∧ W'.cell? ⟨w.heap.size, 3, none⟩ = some (.slice A3 n3 p3) ∧ W'.cell? ⟨w.heap.size + 1, 0, none⟩ = some (.slice (some ⟨rb, ro, none⟩) n c) ∧ W'.cell? ⟨rb, ro, none⟩ = some (.string key))) := fun W' hW => ⟨(HX0.out.later hW HX0.out.lt).at 0 rfl, (HX0.out.later hW HX0.out.lt).at 1 rfl, (HX0.out.later hW HX0.out.lt).at 2 rfl, (HX0.out.later hW HX0.out.lt).at 3 rfl, (HX1.out.later hW HX1.out.lt).at 0 rfl, ((HBB.out.later hW).cell (p := ⟨rb, ro, none⟩) hrb).trans hc0⟩
  have hwz := HBB.out.size
  go_enter Tryz.func87, Tryz.ntmps87
  go_wp2_with fail
  rw [← hWB]
  clear hWB
  refine (HKC.out _ HBB.out).mono ?_
  rintro e w1 ⟨rfl, hb1⟩
  have HB1 := Lib.hid (HBB.out.later hb1)
  obtain ⟨x0, x1, x2, x3, x4, x5⟩ := HS1.out _ hb1
  have z1 := hb1.size
  have zw : w.heap.size < w1.heap.size := by have := HX0.out.lt; omega
  have zw1 : w.heap.size + 1 < w1.heap.size := by have := HX1.out.lt; omega
  have zr : rb < w1.heap.size := by omega
  clear hb1
  by_cases hv : v = ⟨#[]⟩
  · have HE : Hid (R = []) := by unfold Hid; rw [HR.out, if_pos hv]
    subst hv
    go_wp2_with fail
    go_ret
    exact ⟨_, rfl, by rw [HE.out]; exact chgsO_nil _ _, HB1.out⟩
  · have HE : Hid (R = [⟨kind, gl, [iS, col, v, key], ⟨#[]⟩⟩]) := by unfold Hid; rw [HR.out, if_neg hv]
    have hbe := str_beq hv
    have hbe3 := ne_bytes (l := []) hv
    have HCO := Lib.hid (chgs_one (d := ⟨kind, gl, [iS, col, v, key], ⟨#[]⟩⟩) (sub_lit (w := w1) (base := w.heap.size) [iS, col, v, key] #[.string ⟨#[105]⟩, .string col, .string v, .string key] HB1.out.size (by simp) rfl) (by have := HB1.out.size; simp; omega))
    clear hv
    go_wp2_with fail
    first | go_region | skip
    go_wp2_with fail
    go_ret
    refine ⟨.slice (some ⟨w1.heap.size + 1, 0, none⟩) 1 1, rfl, ?_, ((HB1.out.later (Below.new _ _)).later (Below.new _ _)).drew⟩
    rw [HE.out]
    have h := HCO.out
    simp only [World.size_alloc] at h
    exact ChgsO.later ⟨_, h⟩ (Below.refl _ _).drew

set_option maxRecDepth 100000 in
set_option maxHeartbeats 4000000 in
theorem indexNodes_any (b0 b1 b2 b3 r0 : Value) (b : TableD) (r : List ByteArray) (kind : Int) (w : World) (hb : TableR w w.heap.size b0 b1 b2 b3 b) (h : RowR w w.heap.size r0 r) (hbs : b.small) (hil : b.idx.length ≤ 1000000) (hpl : ∀ c ∈ b.idx, 0 ≤ placeI b.cols c ∧ (placeI b.cols c).toNat < r.length) :
    Calls Tryz.prog 77 #[.agg #[b0, b1, b2, b3], .int .i64 kind, .agg #[r0]] w (ChgsOnly (idxsC kind b r) w) := by
  obtain ⟨i0, hi0, hz0, hz1, hz2⟩ := info_parts infoChgD
  have HKI := Lib.hid (fun c (hc : c ∈ b.idx) W (hW : Below w.heap.size w W) => indexNode_any b0 b1 b2 b3 r0 b r c kind W (hb.later hW) (h.later hW) hbs (hpl c hc).1 (hpl c hc).2)
  have HFL := Lib.hid (idxC_len kind b.glob b.cols r)
  have HR : Hid (idxsC kind b r = b.idx.flatMap (idxC kind b.glob b.cols r)) := rfl
  obtain ⟨rfl, rfl, ⟨A2, n2, p2, rfl, s2, k2⟩, ⟨A3, n3, p3, rfl, s3, k3⟩⟩ := hb
  obtain ⟨A, n, c, rfl, hs, hnc⟩ := h
  have HSX := Lib.hid s3
  have HLI := Lib.hid s3.1
  have hn3 : n3 ≤ 1000000 := by rw [← s3.1]; exact hil
  clear s2 s3 hs hbs hil hpl
  generalize idxsC kind b r = IX at *
  generalize idxC kind b.glob b.cols r = F at *
  generalize b.idx = ids at *
  generalize b.name = nm at *
  generalize b.glob = gl at *
  obtain ⟨WB, hWB⟩ : ∃ WB, WB = (w.alloc (.cells #[.string nm, .string gl, .slice A2 n2 p2, .slice A3 n3 p3] 29)).alloc (.cells #[.slice A n c] 40) := ⟨_, rfl⟩
  have HX0 : Hid (Blk WB w.heap.size 29 #[.string nm, .string gl, .slice A2 n2 p2, .slice A3 n3 p3]) := by subst hWB; exact heap_two0 _ _ _
  have HX1 : Hid (Blk WB (w.heap.size + 1) 40 #[.slice A n c]) := by subst hWB; exact heap_two1 _ _ _
  have HBB : Hid (Below w.heap.size w WB) := by subst hWB; exact (Below.new _ _).later (Below.new _ _)
  have HS1 : Hid (∀ W', Below WB.heap.size WB W' → (W'.cell? ⟨w.heap.size, 0, none⟩ = some (.string nm) ∧ W'.cell? ⟨w.heap.size, 1, none⟩ = some (.string gl) ∧ W'.cell? ⟨w.heap.size, 2, none⟩ = some (.slice A2 n2 p2) ∧ W'.cell? ⟨w.heap.size, 3, none⟩ = some (.slice A3 n3 p3) ∧ W'.cell? ⟨w.heap.size + 1, 0, none⟩ = some (.slice A n c))) := fun W' hW => ⟨(HX0.out.later hW HX0.out.lt).at 0 rfl, (HX0.out.later hW HX0.out.lt).at 1 rfl, (HX0.out.later hW HX0.out.lt).at 2 rfl, (HX0.out.later hW HX0.out.lt).at 3 rfl, (HX1.out.later hW HX1.out.lt).at 0 rfl⟩
  have hwz := HBB.out.size
  have zw0 := HX0.out.lt
  have zw1 := HX1.out.lt
  have hsz : WB.heap.size = w.heap.size + 1 + 1 := by subst hWB; simp
  have HO1 : Hid (ChgsO (WB.alloc (.cells #[] 88)) WB.heap.size (.slice (some ⟨w.heap.size + 1 + 1, 0, none⟩) 0 0) []) := by
    have h := chgsO_lit WB WB.heap.size (Nat.le_refl _)
    have e : Value.slice (some ⟨WB.heap.size, 0, none⟩) 0 0 = Value.slice (some ⟨w.heap.size + 1 + 1, 0, none⟩) 0 0 := by rw [hsz]
    rw [e] at h
    exact h
  clear hsz
  obtain ⟨y0, y1, y2, y3, y4⟩ := HS1.out _ (Below.new WB (.cells #[] 88))
  obtain ⟨WC, hWC⟩ : ∃ WC, WC = WB.alloc (.cells #[] 88) := ⟨_, rfl⟩
  have HBC : Hid (Below WB.heap.size WB WC) := by subst hWC; exact Below.new _ _
  rw [← hWC] at HO1 y0 y1 y2 y3 y4
  go_enter Tryz.func77, Tryz.ntmps77
  rw [hWB] at hWC
  go_wp2_with fail
  rw [← hWC]
  clear hWB hWC
  go_wp2_with fail
  go_loopw [7, 14] (fun v i wr => ∃ (k : Nat), k ≤ n3 ∧ i = .int .i64 k ∧ ChgsO wr WB.heap.size v ((ids.take k).flatMap F) ∧ Below WB.heap.size WB wr) (fun _ i _ => n3 - (intOf i).toNat)
  case atStart => exact ⟨0, Nat.zero_le _, rfl, HO1.out, HBC.out⟩
  case round =>
    obtain ⟨k, hk, rfl, ⟨vs, hown⟩, hb⟩ := hrel
    have HB := Lib.hid hb
    have HO := Lib.hid hown
    clear y0 y1 y2 y3 y4
    obtain ⟨x0, x1, x2, x3, x4⟩ := HS1.out _ hb
    have HBw := Lib.hid (HBB.out.later hb)
    have hwr := hb.size
    clear hb hown HO1
    by_cases hlt : k < n3
    · obtain ⟨ib, io, rfl, hib, hic⟩ := (HSX.out.later HBw.out).2 (by omega)
      have hik := hic k hlt
      have hl : k < ids.length := by rw [HLI.out]; exact hlt
      have HKc := Lib.hid (HKI.out _ (getD_memS ids k hl))
      have HST := Lib.hid (flatMap_step F ids k hl)
      have HF1 := Lib.hid (HFL.out (ids.getD k ByteArray.empty))
      have HTL : Hid (((ids.take k).flatMap F).length ≤ 1000001) := by
        unfold Hid
        have h1 := flatMap_len F HFL.out (ids.take k)
        rw [List.length_take] at h1
        omega
      clear hic hl
      generalize ids.getD k ByteArray.empty = col at *
      generalize hg : F col = gs at *
      clear hg
      generalize hfs : (ids.take k).flatMap F = fs at *
      have HFS := Lib.hid hfs
      clear hfs
      have hN := HTL.out
      generalize hNN : fs.length = N at *
      have HN := Lib.hid hNN
      clear hNN
      have hM := HF1.out
      go_wp2_with fail
      refine (HKc.out _ HBw.out).mono ?_
      rintro e w4 ⟨v4, rfl, ⟨us, hown4⟩, hb4⟩
      obtain ⟨A4, cap4, rfl, hcap4, _, _⟩ := Own.own_slice hown4.row
      have HB4 := Lib.hid hb4
      have hw4 := hb4.size
      have HO4 : Hid (Own.OwnL chgK w4 wr.heap.size 88 (.slice A4 gs.length cap4) gs us) := hown4
      have HRD := Lib.hid (Reads.of_own hown4.row)
      have HONE := Lib.hid (ownC_one hown4)
      have HRA : Hid (w4.ownsRow WB.heap.size 88 4 u7 N (Own.flat chgK fs vs)) := by
        have h := (HO.out.later hb4).row
        rw [HN.out] at h
        exact h
      clear hb4 hown4 x0 x1 x2 x3 x4
      go_wp2_with (at_builtin; refine wpList_append_any _ rfl (.tmp 18) (.tmp 23) 61 rfl WB.heap.size 88 i0 _ 4 64 Tryz.underlying61 hi0 hz0 hz1 hz2 rfl (by decide) _ N (Own.flat chgK fs vs) rfl (HRA.out) w4.heap.size A4 gs.length cap4 (Own.flat chgK gs us) rfl (HRD.out) (HONE.out) ?c1 ?c2 ?c3 ?_)
      case c1 => unfold maxLen; omega
      case c2 => omega
      case c3 => omega
      intro v5 w5 hown5 hgrow5 _
      have HC5 : Hid (ChgsO w5 WB.heap.size v5 ((ids.take (k + 1)).flatMap F)) := by
        unfold Hid
        rw [HST.out]
        exact chgs_grow HO.out hwr HB4.out HO4.out (by rw [HN.out]; exact hown5) hgrow5
      have HB5 : Hid (Below WB.heap.size WB w5) := (HB.out.later HB4.out).grown hgrow5 (by omega) (fun g hg => (World.ownsRow.lt HRA.out g hg).1)
      clear hown5 hgrow5
      go_wp2_with fail
      go_roundw
      case rel => exact ⟨k + 1, by omega, by go_num, HC5.out, HB5.out⟩
      case measure => simp [intOf]; omega
    · have HE : Hid ((ids.take k).flatMap F = IX) := by
        unfold Hid
        rw [List.take_of_length_le (by rw [HLI.out]; omega), HR.out]
      have HCE : Hid (ChgsO wr w.heap.size u7 IX) := by
        unfold Hid
        rw [← HE.out]
        exact ChgsO.base ⟨vs, HO.out⟩ hwz
      go_wp2_with fail
      go_ret
      exact ⟨_, rfl, HCE.out, HBw.out⟩
end Go.Proofs.YtfpcjhajjejpdaaGreatDoor
namespace Go.Proofs.YtfpcjhajjejpdaaGreatDoor
open Go.RowKit
set_option linter.unusedVariables false

/-- The change of a kind of a row's node. -/
def nodeChg (kind : Int) (g : ByteArray) (r : List ByteArray) : ChgD := ⟨kind, g, [rS, r.getD 0 ByteArray.empty], if kind = 1 then packB r else ⟨#[]⟩⟩
set_option maxRecDepth 100000 in
set_option maxHeartbeats 8000000 in
theorem rowNode_any (b0 b1 b2 b3 r0 : Value) (b : TableD) (r : List ByteArray) (kind : Int) (w : World) (hb : TableR w w.heap.size b0 b1 b2 b3 b) (h : RowR w w.heap.size r0 r) (hsm : smallR r) (hpos : 0 < r.length) :
    Calls Tryz.prog 76 #[.agg #[b0, b1, b2, b3], .int .i64 kind, .agg #[r0]] w (ChgPost (nodeChg kind b.glob r) w) := by
  have HKP := Lib.hid (fun W (hW : Below w.heap.size w W) => packed_any r0 r W (h.later hW) hsm hpos)
  obtain ⟨rfl, rfl, ⟨A2, n2, p2, rfl, s2, k2⟩, ⟨A3, n3, p3, rfl, s3, k3⟩⟩ := hb
  obtain ⟨A, n, c, rfl, hs, hnc⟩ := h
  rw [hs.1] at hpos
  obtain ⟨rb, ro, rfl, hrb, hrc⟩ := hs.2 hpos
  have hc0 := hrc 0 hpos
  rw [Nat.add_zero] at hc0
  have HR : Hid (nodeChg kind b.glob r = ⟨kind, b.glob, [rS, r.getD 0 ByteArray.empty], if kind = 1 then packB r else ⟨#[]⟩⟩) := rfl
  clear s2 s3 hs hrc hsm
  generalize nodeChg kind b.glob r = R at *
  generalize packB r = pk at *
  generalize r.getD 0 ByteArray.empty = key at *
  generalize b.name = nm at *
  generalize b.glob = gl at *
  obtain ⟨WB, hWB⟩ : ∃ WB, WB = ((w.alloc (.cells #[.string nm, .string gl, .slice A2 n2 p2, .slice A3 n3 p3] 29)).alloc (.cells #[.slice (some ⟨rb, ro, none⟩) n c] 40)).alloc (.cells #[.int .i64 0, .string ⟨#[]⟩, .slice none 0 0, .string ⟨#[]⟩] 88) := ⟨_, rfl⟩
  have HB0 : Hid (Below w.heap.size w WB) := by subst hWB; exact below_new3 w _ _ _
  have HTT : Hid (Blk WB w.heap.size 29 #[.string nm, .string gl, .slice A2 n2 p2, .slice A3 n3 p3]) := by subst hWB; exact heap_new0 _ _ _ _
  have HRR : Hid (Blk WB (w.heap.size + 1) 40 #[.slice (some ⟨rb, ro, none⟩) n c]) := by subst hWB; exact heap_new1 _ _ _ _
  have HYY : Hid (Blk WB (w.heap.size + 1 + 1) 88 #[.int .i64 0, .string ⟨#[]⟩, .slice none 0 0, .string ⟨#[]⟩]) := by subst hWB; exact heap_new2 _ _ _ _
  have hrb3 : rb < WB.heap.size := Nat.lt_of_lt_of_le hrb HB0.out.size
  have hk0 := (HB0.out.cell (p := ⟨rb, ro, none⟩) hrb).trans hc0
  have q1 := HTT.out.cell 1
  have q2 := HRR.out.cell 0
  have hwb := HB0.out.size
  have hwy := HYY.out.lt
  have hwt := HTT.out.lt
  have hwr := HRR.out.lt
  simp at q1 q2
  clear hc0
  go_enter Tryz.func76, Tryz.ntmps76
  go_wp2_with fail
  rw [← hWB]
  clear hWB
  go_region_held3 (fun w' => w'.cell? ⟨w.heap.size, 1, none⟩ = some (.string gl) ∧ w'.cell? ⟨w.heap.size + 1, 0, none⟩ = some (.slice (some ⟨rb, ro, none⟩) n c) ∧ w'.cell? ⟨rb, ro, none⟩ = some (.string key))
    (first | with_reducible exact ⟨q1, q2, hk0⟩ | go_keep) (fail)
  · obtain ⟨W5, hW5⟩ : ∃ W5, W5 = ((WB.alloc (.cells #[.string ⟨#[114]⟩, .string key] 9)).alloc (.cells #[.int .i64 kind, .string gl, .slice (some ⟨WB.heap.size, 0, none⟩) 2 2, .string ⟨#[]⟩] 88)).drew := ⟨_, rfl⟩
    have HW5 : Hid (Below WB.heap.size WB W5) := by subst hW5; exact ((Below.new _ _).later (Below.new _ _)).drew
    have HQ5 : Hid (Blk W5 (WB.heap.size + 1) 88 #[.int .i64 kind, .string gl, .slice (some ⟨WB.heap.size, 0, none⟩) 2 2, .string ⟨#[]⟩]) := by subst hW5; exact heap_two1 _ _ _
    have HU5 : Hid (Own.SubO W5 w.heap.size (.slice (some ⟨WB.heap.size, 0, none⟩) 2 2) [rS, key]) := by subst hW5; exact sub_later (sub_lit2 [rS, key] _ rfl hwb rfl (by decide) rfl) (Below.new _ _).drew
    rw [← hW5]
    clear hW5
    have HB5 := Lib.hid (HB0.out.later HW5.out)
    have HY5 := Lib.hid (HYY.out.later HW5.out HYY.out.lt)
    have x4 := (HRR.out.later HW5.out HRR.out.lt).cell 0
    simp at x4
    clear q1 q2 hk0
    by_cases hk1 : kind = 1
    · have HE : Hid (R = ⟨1, gl, [rS, key], pk⟩) := by unfold Hid; rw [HR.out, if_pos hk1, hk1]
      subst hk1
      go_wp2_with fail
      refine (HKP.out _ HB5.out).mono ?_
      rintro e w6 ⟨rfl, hb6⟩
      have HQ6 := Lib.hid (HQ5.out.later hb6 HQ5.out.lt)
      have HY6 := Lib.hid (HY5.out.later hb6 HY5.out.lt)
      have HU6 := Lib.hid (sub_later HU5.out hb6)
      have HB6 := Lib.hid (HB5.out.later hb6)
      clear hb6 x4
      have c0 := HQ6.out.cell 0
      have c1 := HQ6.out.cell 1
      have c2 := HQ6.out.cell 2
      have c3 := HQ6.out.cell 3
      have cf3 := HQ6.out.frozen 3
      have cz := HQ6.out.lt
      have y0 := HY6.out.cell 0
      have y1 := HY6.out.cell 1
      have y2 := HY6.out.cell 2
      have y3 := HY6.out.cell 3
      have yf0 := HY6.out.frozen 0
      have yf1 := HY6.out.frozen 1
      have yf2 := HY6.out.frozen 2
      have yf3 := HY6.out.frozen 3
      have yz := HY6.out.lt
      have hne : w.heap.size + 1 + 1 ≠ WB.heap.size + 1 := by omega
      simp at c0 c1 c2 c3 y0 y1 y2 y3
      go_wp2_with fail
      refine bodyPost_ret (v := .agg #[.int .i64 1, .string gl, .slice (some ⟨WB.heap.size, 0, none⟩) 2 2, .string pk]) (by simp [results, Tryz.results76, go_sem, y0, y1, y2, y3]) rfl ?_
      refine ⟨_, by rw [HE.out], ?_, below_four (HB6.out.setCell (p := ⟨WB.heap.size + 1, 3, none⟩) (show w.heap.size ≤ WB.heap.size + 1 by omega) _) (show w.heap.size ≤ w.heap.size + 1 + 1 by omega) _ _ _ _⟩
      rw [HE.out]
      exact sub_four (HU6.out.setBlk HQ6.out (by decide)) (HY6.out.far (p := ⟨WB.heap.size + 1, 3, none⟩) (show w.heap.size + 1 + 1 ≠ WB.heap.size + 1 by omega) _) (by decide) _ _ _ _
    · have HE : Hid (R = ⟨kind, gl, [rS, key], ⟨#[]⟩⟩) := by unfold Hid; rw [HR.out, if_neg hk1]
      have hb1 : (kind == (1 : Int)) = false := by rw [beq_eq_false_iff_ne]; exact hk1
      have c0 := HQ5.out.cell 0
      have c1 := HQ5.out.cell 1
      have c2 := HQ5.out.cell 2
      have c3 := HQ5.out.cell 3
      have cf3 := HQ5.out.frozen 3
      have cz := HQ5.out.lt
      have y0 := HY5.out.cell 0
      have y1 := HY5.out.cell 1
      have y2 := HY5.out.cell 2
      have y3 := HY5.out.cell 3
      have yf0 := HY5.out.frozen 0
      have yf1 := HY5.out.frozen 1
      have yf2 := HY5.out.frozen 2
      have yf3 := HY5.out.frozen 3
      have yz := HY5.out.lt
      have hne : w.heap.size + 1 + 1 ≠ WB.heap.size + 1 := by omega
      simp at c0 c1 c2 c3 y0 y1 y2 y3
      go_wp2_with fail
      refine bodyPost_ret (v := .agg #[.int .i64 kind, .string gl, .slice (some ⟨WB.heap.size, 0, none⟩) 2 2, .string ⟨#[]⟩]) (by simp [results, Tryz.results76, go_sem, y0, y1, y2, y3]) rfl ?_
      refine ⟨_, by rw [HE.out], ?_, below_four HB5.out (show w.heap.size ≤ w.heap.size + 1 + 1 by omega) _ _ _ _⟩
      rw [HE.out]
      exact sub_four HU5.out HY5.out (by decide) _ _ _ _
  · obtain ⟨W5, hW5⟩ : ∃ W5, W5 = ((WB.alloc (.cells #[.int .i64 kind, .string gl, .slice (some ⟨WB.heap.size + 1, 0, none⟩) 2 2, .string ⟨#[]⟩] 88)).alloc (.cells #[.string ⟨#[114]⟩, .string key] 9)).drew := ⟨_, rfl⟩
    have HW5 : Hid (Below WB.heap.size WB W5) := by subst hW5; exact ((Below.new _ _).later (Below.new _ _)).drew
    have HQ5 : Hid (Blk W5 (WB.heap.size) 88 #[.int .i64 kind, .string gl, .slice (some ⟨WB.heap.size + 1, 0, none⟩) 2 2, .string ⟨#[]⟩]) := by subst hW5; exact heap_two0 _ _ _
    have HU5 : Hid (Own.SubO W5 w.heap.size (.slice (some ⟨WB.heap.size + 1, 0, none⟩) 2 2) [rS, key]) := by subst hW5; exact sub_later (sub_lit2 [rS, key] _ (by simp) (by omega) rfl (by decide) rfl) (Below.refl _ _).drew
    rw [← hW5]
    clear hW5
    have HB5 := Lib.hid (HB0.out.later HW5.out)
    have HY5 := Lib.hid (HYY.out.later HW5.out HYY.out.lt)
    have x4 := (HRR.out.later HW5.out HRR.out.lt).cell 0
    simp at x4
    clear q1 q2 hk0
    by_cases hk1 : kind = 1
    · have HE : Hid (R = ⟨1, gl, [rS, key], pk⟩) := by unfold Hid; rw [HR.out, if_pos hk1, hk1]
      subst hk1
      go_wp2_with fail
      refine (HKP.out _ HB5.out).mono ?_
      rintro e w6 ⟨rfl, hb6⟩
      have HQ6 := Lib.hid (HQ5.out.later hb6 HQ5.out.lt)
      have HY6 := Lib.hid (HY5.out.later hb6 HY5.out.lt)
      have HU6 := Lib.hid (sub_later HU5.out hb6)
      have HB6 := Lib.hid (HB5.out.later hb6)
      clear hb6 x4
      have c0 := HQ6.out.cell 0
      have c1 := HQ6.out.cell 1
      have c2 := HQ6.out.cell 2
      have c3 := HQ6.out.cell 3
      have cf3 := HQ6.out.frozen 3
      have cz := HQ6.out.lt
      have y0 := HY6.out.cell 0
      have y1 := HY6.out.cell 1
      have y2 := HY6.out.cell 2
      have y3 := HY6.out.cell 3
      have yf0 := HY6.out.frozen 0
      have yf1 := HY6.out.frozen 1
      have yf2 := HY6.out.frozen 2
      have yf3 := HY6.out.frozen 3
      have yz := HY6.out.lt
      have hne : w.heap.size + 1 + 1 ≠ WB.heap.size := by omega
      simp at c0 c1 c2 c3 y0 y1 y2 y3
      go_wp2_with fail
      refine bodyPost_ret (v := .agg #[.int .i64 1, .string gl, .slice (some ⟨WB.heap.size + 1, 0, none⟩) 2 2, .string pk]) (by simp [results, Tryz.results76, go_sem, y0, y1, y2, y3]) rfl ?_
      refine ⟨_, by rw [HE.out], ?_, below_four (HB6.out.setCell (p := ⟨WB.heap.size, 3, none⟩) (show w.heap.size ≤ WB.heap.size by omega) _) (show w.heap.size ≤ w.heap.size + 1 + 1 by omega) _ _ _ _⟩
      rw [HE.out]
      exact sub_four (HU6.out.setBlk HQ6.out (by decide)) (HY6.out.far (p := ⟨WB.heap.size, 3, none⟩) (show w.heap.size + 1 + 1 ≠ WB.heap.size by omega) _) (by decide) _ _ _ _
    · have HE : Hid (R = ⟨kind, gl, [rS, key], ⟨#[]⟩⟩) := by unfold Hid; rw [HR.out, if_neg hk1]
      have hb1 : (kind == (1 : Int)) = false := by rw [beq_eq_false_iff_ne]; exact hk1
      have c0 := HQ5.out.cell 0
      have c1 := HQ5.out.cell 1
      have c2 := HQ5.out.cell 2
      have c3 := HQ5.out.cell 3
      have cf3 := HQ5.out.frozen 3
      have cz := HQ5.out.lt
      have y0 := HY5.out.cell 0
      have y1 := HY5.out.cell 1
      have y2 := HY5.out.cell 2
      have y3 := HY5.out.cell 3
      have yf0 := HY5.out.frozen 0
      have yf1 := HY5.out.frozen 1
      have yf2 := HY5.out.frozen 2
      have yf3 := HY5.out.frozen 3
      have yz := HY5.out.lt
      have hne : w.heap.size + 1 + 1 ≠ WB.heap.size := by omega
      simp at c0 c1 c2 c3 y0 y1 y2 y3
      go_wp2_with fail
      refine bodyPost_ret (v := .agg #[.int .i64 kind, .string gl, .slice (some ⟨WB.heap.size + 1, 0, none⟩) 2 2, .string ⟨#[]⟩]) (by simp [results, Tryz.results76, go_sem, y0, y1, y2, y3]) rfl ?_
      refine ⟨_, by rw [HE.out], ?_, below_four HB5.out (show w.heap.size ≤ w.heap.size + 1 + 1 by omega) _ _ _ _⟩
      rw [HE.out]
      exact sub_four HU5.out HY5.out (by decide) _ _ _ _
end Go.Proofs.YtfpcjhajjejpdaaGreatDoor
