/-
  Drawn trees and transactions of earlier ones: DrawCommitTrans. (Printed by gen_ty4.py.) FnCommitIs returns true at all bytes: the walk. (Printed by gen_fnci.py.)
-/
import Derived.Test.YtgmaamnofhmecaaGreatDoorZ00
import Derived.Test.YtgmaamnofhmecaaGreatDoorZ01
import Derived.Test.YtgmaamnofhmecaaGreatDoorZ02
import Derived.Test.YtgmaamnofhmecaaGreatDoorZ03
import Derived.Test.YtgmaamnofhmecaaGreatDoorZ04
import Derived.Test.YtgmaamnofhmecaaGreatDoorZ05
import Derived.Test.YtgmaamnofhmecaaGreatDoorZ06
import Derived.Test.YtgmaamnofhmecaaGreatDoorZ07
import Derived.Test.YtgmaamnofhmecaaGreatDoorZ08
import Derived.Test.YtgmaamnofhmecaaGreatDoorZ09
import Derived.Test.YtgmaamnofhmecaaGreatDoorZ10
import Derived.Test.YtgmaamnofhmecaaGreatDoorZ11
import Derived.Test.YtgmaamnofhmecaaGreatDoorZ12
import Derived.Test.YtgmaamnofhmecaaGreatDoorZ13
import Derived.Test.YtgmaamnofhmecaaGreatDoorZ14
import Derived.Test.YtgmaamnofhmecaaGreatDoorZ15
import Derived.Test.YtgmaamnofhmecaaGreatDoorZ16
import Derived.Test.YtgmaamnofhmecaaGreatDoorZ17
import Derived.Test.YtgmaamnofhmecaaGreatDoorZ18
import Derived.Test.YtgmaamnofhmecaaGreatDoorZ19
import Derived.Test.YtgmaamnofhmecaaGreatDoorZ20
import Derived.Test.YtgmaamnofhmecaaGreatDoorZ21
import Derived.Test.YtgmaamnofhmecaaGreatDoorZ22
import Derived.Test.YtgmaamnofhmecaaGreatDoorZ23
import Derived.Test.YtgmaamnofhmecaaGreatDoorZ24
import Derived.Test.YtgmaamnofhmecaaGreatDoorZ25
import Derived.Test.YtgmaamnofhmecaaGreatDoorZ26
import Derived.Test.YtgmaamnofhmecaaGreatDoorZ27
import Derived.Test.YtgmaamnofhmecaaGreatDoorZ28
import Derived.Test.YtgmaamnofhmecaaGreatDoorZ29
import Derived.Test.YtgmaamnofhmecaaGreatDoorZ30
import Derived.Test.YtgmaamnofhmecaaGreatDoorZ31
import Derived.Test.YtgmaamnofhmecaaGreatDoorZ32
import Derived.Test.YtgmaamnofhmecaaGreatDoorZ33
import Derived.Test.YtgmaamnofhmecaaGreatDoorZ34
import Derived.Test.YtgmaamnofhmecaaGreatDoorZ35
import Derived.Test.YtgmaamnofhmecaaGreatDoorZ36
import Derived.Test.YtgmaamnofhmecaaGreatDoorZ37
import Derived.Test.YtgmaamnofhmecaaGreatDoorZ38
import Derived.Test.YtgmaamnofhmecaaGreatDoorZ39
import Derived.Test.YtgmaamnofhmecaaGreatDoorZ40
import Derived.Test.YtgmaamnofhmecaaGreatDoorZ41
import Derived.Test.YtgmaamnofhmecaaGreatDoorZ42
import Derived.Test.YtgmaamnofhmecaaGreatDoorZ43
import Derived.Test.YtgmaamnofhmecaaGreatDoorX00
import Derived.Test.YtgmaamnofhmecaaGreatDoorProg
import Derived.Test.YtgmaamnofhmecaaGreatDoorX01
import Derived.BigQuiet
import Derived.Deep.AppendLies
import Derived.Deep.CutBlock
import Derived.Deep.DeepCutAuto
import Derived.Deep.QuietTactic
import Derived.Deep.RegionHeld3
import Derived.Deep.RegionLaw
import Derived.Deep.RegionWith
import Derived.Ground.GgwProg
import Derived.Ground.Names2Prog
import Derived.Ground.SlgnProg
import Derived.IntWalk
import Derived.Laws.BitsAllLaws
import Derived.Laws.CopyOwn
import Derived.Laws.CopyRow
import Derived.Laws.IdiomStrings
import Derived.Laws.OwnMore
import Derived.Lib.AppendIntMem
import Derived.Lib.BufferWrite
import Derived.Lib.Hide
import Derived.Lib.IndexAny
import Derived.Lib.IndexBytes
import Derived.Lib.ItoaNum
import Derived.Lib.Join
import Derived.Lib.SlTrimSet
import Derived.Lib.SliceRun
import Derived.Lib.SplitLaws
import Derived.Lib.Strings
import Derived.Lib.TrimUEq
import Derived.Maps.AppendAt
import Derived.OwnWalk
import Derived.RegionTactic
import Derived.Shelf.GgClosure.StringsIndexFunc
import Derived.Shelf.GgClosure.StringsIndexFuncTop
import Derived.Shelf.LaysM
import Derived.Shelf.Slices.Cells
import Derived.Shelf.Slices.Clone
import Derived.Shelf.Slices.CompactS
import Derived.Shelf.Slices.Empties2
import Derived.Shelf.Slices.Equal
import Derived.Shelf.Slices.In.SortNone
import Derived.Shelf.Slices.Turned
import Derived.Shelf.SlicesE.Clone
import Derived.Shelf.SlicesG.SearchI
import Derived.Shelf.Small.Bits
import Derived.Shelf.Small.Strs
import Derived.Shelf.Small.Utf8
import Derived.Shelf.Small.Wraps
import Derived.Shelf.Sort.Plain
import Derived.Shelf.Strconv.Itoa0
import Derived.Shelf.Strconv.Itoa1
import Derived.Shelf.Strconv.Itoa2
import Derived.Shelf.Strconv.Itoa3
import Derived.Shelf.Strconv.Itoa4
import Derived.Shelf.Strings.AsciiSet
import Derived.Shelf.Strings.Builder1
import Derived.Shelf.Strings.Builder2
import Derived.Shelf.Strings.Count
import Derived.Shelf.Strings.Explode
import Derived.Shelf.Strings.FuncGrows
import Derived.Shelf.Strings.OnBuilder
import Derived.Shelf.Strings.Prefix
import Derived.Shelf.Strings.Replace
import Derived.Shelf.Strings.RuneCount
import Derived.Shelf.Strings.Runes
import Derived.Shelf.Strings.Search1
import Derived.Shelf.Strings.Search2
import Derived.Shelf.Strings.Search3
import Derived.Shelf.Strings.Shaped
import Derived.Shelf.Strings.SlTrimAscii
import Derived.Shelf.Strings.Split
import Derived.Shelf.Strings.SplitShaped
import Derived.Shelf.Strings.Trim
import Derived.Shelf.Unicode.Decode
import Derived.Shelf.Unicode.DecodeAny
import Derived.Shelf.Unicode.DecodeLast
import Derived.Shelf.Unicode.DecodeSlow
import Derived.Shelf.Unicode.PredsPay
import Derived.Shelf.Utf8.RuneCount
import Derived.WalkKit
import Derived.WalkLawsBesides
import Derived.WalkSpells
set_option linter.unusedSimpArgs false
namespace Go.Proofs.YtgmaamnofhmecaaGreatDoor
open Go.RowKit
set_option linter.unusedVariables false
set_option linter.unusedSimpArgs false

def evZ (sb : ByteArray) : EvD := ⟨2, ⟨#[65]⟩, [sb], ⟨#[122]⟩, 0⟩
theorem ev_smallZ {sb : ByteArray} (h : sb.size ≤ 16) : (evZ sb).small := ⟨(by decide : (⟨#[65]⟩ : ByteArray).size ≤ 1048576), ⟨(show [sb].length ≤ 1048576 by simp), fun s hs => by rw [List.mem_singleton.1 hs]; omega⟩, (by decide : (⟨#[122]⟩ : ByteArray).size ≤ 1048576)⟩
theorem sub_one (W : World) (sb : ByteArray) (b : Nat) (hb : b ≤ W.heap.size) : Own.SubO (W.alloc (.cells #[.string sb] 9)) b (.slice (some ⟨W.heap.size, 0, none⟩) 1 1) [sb] := sub_lit (w := W) (base := b) [sb] _ hb (by simp) rfl
theorem sub_oneG (W : World) (sb : ByteArray) (b g : Nat) (hg : W.heap.size = g) (hb : b ≤ W.heap.size) : Own.SubO (W.alloc (.cells #[.string sb] 9)) b (.slice (some ⟨g, 0, none⟩) 1 1) [sb] := by
  subst hg
  exact sub_one W sb b hb
theorem al_size (W : World) (o : Obj) : (W.alloc o).heap.size = W.heap.size + 1 := by simp
theorem l25TurnZ (A : Option Addr) (n c : Nat) (fs : List NodeD) (W : World) (base : Nat) (sb : ByteArray) (g : Nat) (hN : Nodes W W.heap.size A n fs) (hnc : n ≤ c) (hs : smallNs fs) (hsub : Own.SubO W base (.slice (some ⟨g, 0, none⟩) 1 1) [sb]) (h16 : (evZ sb).small) :
    Calls Tryz.prog 82 #[.agg #[.slice A n c], .agg #[.int .i64 2, .string ⟨#[65]⟩, .slice (some ⟨g, 0, none⟩) 1 1, .string ⟨#[122]⟩, .int .i64 0]] W (TreePost (doOneB fs (chgOf (evZ sb))) W) :=
  l25Turn_any A n c fs _ _ _ _ _ (evZ sb) W hN hnc hs (evr_own (d := evZ sb) (base := base) hsub) h16
theorem okV_z : okV ⟨#[122]⟩ := okV_head (c := 122) rfl (by decide) (by decide)
set_option maxRecDepth 100000 in
set_option maxHeartbeats 16000000 in
theorem DrawCommitTrans_any (A : Option Addr) (n c : Nat) (w : World) (h : BytesR w w.heap.size A n) (hn : n ≤ 1048576) :
    Calls Tryz.prog 26 #[.slice A n c] w (DViewPost w) := by
  obtain ⟨WB, hWB⟩ : ∃ WB, WB = (w.alloc (.cells #[.slice none 0 0] 26)).alloc (.cells #[.int .i64 0, .int .i64 0, .slice none 0 0] 58) := ⟨_, rfl⟩
  have HBB : Hid (Below w.heap.size w WB) := by subst hWB; exact (Below.new _ _).later (Below.new _ _)
  have HR2 : Hid (Blk WB w.heap.size 26 #[.slice none 0 0]) := by subst hWB; exact heap_two0 _ _ _
  have HR4 : Hid (Blk WB (w.heap.size + 1) 58 #[.int .i64 0, .int .i64 0, .slice none 0 0]) := by subst hWB; exact heap_two1 _ _ _
  have HK1 := Lib.hid (l00FromS_any A n c WB (BytesR.laterS h HBB.out) hn)
  have hp3 : WB.heap.size = w.heap.size + 1 + 1 := by subst hWB; simp
  clear h hn
  go_enter Tryz.func26, Tryz.ntmps26
  go_wp2_with fail
  rw [← hWB]
  clear hWB
  refine HK1.out.mono ?_
  rintro e w1 ⟨rfl, hs1, hb1⟩
  rw [hp3] at hs1 hb1 ⊢
  have HB1 := Lib.hid (HBB.out.trans (hb1.mono (by omega)))
  have HA2 := Lib.hid (Blk.later HR2.out (hb1.mono (Nat.le_of_eq hp3)) HR2.out.lt)
  have HA4 := Lib.hid (Blk.later HR4.out (hb1.mono (Nat.le_of_eq hp3)) HR4.out.lt)
  have hw1 : w.heap.size + 1 + 1 < w1.heap.size := hs1.lt
  generalize hp : w.heap.size + 1 + 1 = p at *
  have HS1 := Lib.hid hs1
  have HK2 := Lib.hid (l25DrawC_any p 0 w1 hs1 (by omega))
  clear hs1 hb1 HK1 HR2 HR4 HBB hp3
  go_wp2_with fail
  refine HK2.out.mono ?_
  rintro e w2 ⟨tv, fs, rfl, hT, htr, hfi, hd⟩
  obtain ⟨A1, cap1, rfl, hcap1, hN2⟩ := hT.reads
  have HT2 := Lib.hid hT
  have HD2 := Lib.hid hd
  have HTF := Lib.hid (And.intro htr hfi)
  have HE2 := Lib.hid (Blk.drawn HA2.out hd (by omega))
  have HE4 := Lib.hid (Blk.drawn HA4.out hd (by omega))
  have hw2 := hd.chg.size
  clear hT htr hfi hd HK2 HA2 HA4
  obtain ⟨WX, hWX⟩ : ∃ WX, WX = w2.alloc (.cells #[.slice A1 fs.length cap1] 26) := ⟨_, rfl⟩
  have HX : Hid (Blk WX w2.heap.size 26 #[.slice A1 fs.length cap1]) := by subst hWX; exact heap_alloc_new _ _
  have HDX : Hid (Drawn p (0 + 100) w1 WX) := by subst hWX; exact HD2.out.later (Below.new _ _)
  have HTX : Hid (NodesO WX w1.heap.size (.slice A1 fs.length cap1) fs) := by subst hWX; exact HT2.out.later (Below.new _ _)
  have HNX : Hid (Nodes WX WX.heap.size A1 fs.length fs) := by subst hWX; exact hN2.later (Below.new _ _)
  have HX2 : Hid (Blk WX w.heap.size 26 #[.slice none 0 0]) := by subst hWX; exact HE2.out.alloc _
  have HX4 : Hid (Blk WX (w.heap.size + 1) 58 #[.int .i64 0, .int .i64 0, .slice none 0 0]) := by subst hWX; exact HE4.out.alloc _
  have hwx := HX.out.lt
  have HKB := Lib.hid (fun W (hW : Below WX.heap.size WX W) => l25Bent_any p (0 + 100) A1 fs.length cap1 fs W (HDX.out.src.later hW) (by omega) (HNX.out.later hW) hcap1 HTF.out.1 HTF.out.2)
  have x0 := HX.out.cell 0
  simp at x0
  clear HT2 HD2 HE2 HE4 hN2
  go_wp2_with fail
  rw [← hWX]
  clear hWX
  refine (HKB.out _ (Below.refl _ _)).mono ?_
  rintro e w3 ⟨v, x, rfl, hev, hx, hd3⟩
  obtain ⟨dp, rs, l⟩ := x
  dsimp only at hev hx ⊢
  obtain ⟨EA, ec, rfl, _, _⟩ := hev.reads
  have HFY := Lib.hid hx
  have HD3 := Lib.hid (HDX.out.trans hd3)
  have H3T := Lib.hid (HTX.out.drawn HDX.out.src hd3)
  have H3E : Hid (EvsO w3 w1.heap.size (.slice EA l.length ec) l) := hev.base (show w1.heap.size ≤ WX.heap.size by omega)
  have H32 := Lib.hid (Blk.drawn HX2.out hd3 (by omega))
  have H34 := Lib.hid (Blk.drawn HX4.out hd3 (by omega))
  have H3X := Lib.hid (Blk.drawn HX.out hd3 (by omega))
  have hwd := HD3.out.chg.size
  have hwx3 := hd3.chg.size
  obtain ⟨WY, hWY⟩ : ∃ WY, WY = w3.alloc (.cells #[.int .i64 dp, .int .i64 rs, .slice EA l.length ec] 58) := ⟨_, rfl⟩
  have HY6 : Hid (Blk WY w3.heap.size 58 #[.int .i64 dp, .int .i64 rs, .slice EA l.length ec]) := by subst hWY; exact heap_alloc_new _ _
  have HYB : Hid (Below w3.heap.size w3 WY) := by subst hWY; exact Below.new _ _
  have HDY := Lib.hid (HD3.out.later HYB.out)
  have HYT := Lib.hid (H3T.out.later HYB.out)
  have HYE := Lib.hid (H3E.out.later HYB.out)
  have HY2 := Lib.hid (H32.out.later HYB.out H32.out.lt)
  have HY4 := Lib.hid (H34.out.later HYB.out H34.out.lt)
  have HY5 := Lib.hid (H3X.out.later HYB.out H3X.out.lt)
  have hq5 : w2.heap.size < w3.heap.size := H3X.out.lt
  have HKO := Lib.hid (one_any p (0 + 100 + 220) 3 WY HDY.out.src (by omega) (by omega))
  clear hev hx hd3 H3T H3E H32 H34 H3X HD3 HKB HDX HTX HNX HX2 HX4 HX x0
  go_wp2_with fail
  rw [← hWY]
  clear hWY
  refine HKO.out.mono ?_
  rintro e w4 ⟨b, rfl, hd4⟩
  have HD4 := Lib.hid (HDY.out.trans hd4)
  have H4T := Lib.hid (HYT.out.drawn HDY.out.src hd4)
  have H4E := Lib.hid (HYE.out.drawn HDY.out.src hd4)
  have H42 := Lib.hid (Blk.drawn HY2.out hd4 (by omega))
  have H44 := Lib.hid (Blk.drawn HY4.out hd4 (by omega))
  have H45 := Lib.hid (Blk.drawn HY5.out hd4 (by omega))
  have H46 := Lib.hid (Blk.drawn HY6.out hd4 (by omega))
  clear hd4 HKO HYT HYE HY2 HY4 HY5 HY6 HDY HYB
  cases b
  case false =>
    have H4B := Lib.hid (Own.Chg.below HB1.out HD4.out.chg (fun g e => by rw [e, ← hp]; omega) (Nat.le_refl _))
    have r2 := H42.out.cell 0
    have r4 := H44.out.cell 0
    have r5 := H44.out.cell 1
    have r6 := H44.out.cell 2
    have f2 := H42.out.frozen 0
    have f4 := H44.out.frozen 0
    have f5 := H44.out.frozen 1
    have f6 := H44.out.frozen 2
    have l2 := H42.out.lt
    have l4 := H44.out.lt
    have x0 := H45.out.cell 0
    have y0 := H46.out.cell 0
    have y1 := H46.out.cell 1
    have y2 := H46.out.cell 2
    have hn24 : ¬ w.heap.size = w.heap.size + 1 := by omega
    have hn42 : ¬ w.heap.size + 1 = w.heap.size := by omega
    have hn2x : ¬ w.heap.size = w2.heap.size := by omega
    have hnx2 : ¬ w2.heap.size = w.heap.size := by omega
    have hn4x : ¬ w.heap.size + 1 = w2.heap.size := by omega
    have hnx4 : ¬ w2.heap.size = w.heap.size + 1 := by omega
    have hn2y : ¬ w.heap.size = w3.heap.size := by omega
    have hny2 : ¬ w3.heap.size = w.heap.size := by omega
    have hn4y : ¬ w.heap.size + 1 = w3.heap.size := by omega
    have hny4 : ¬ w3.heap.size = w.heap.size + 1 := by omega
    simp at r2 r4 r5 r6 x0 y0 y1 y2
    go_wp2_with fail
    go_region
    all_goals go_wp2_with fail
    all_goals
      refine bodyPost_ret (v := .tuple #[.agg #[.slice A1 fs.length cap1], .agg #[.int .i64 dp, .int .i64 rs, .slice EA l.length ec]]) (by simp [results, Tryz.results26, go_sem, r2, r4, r5, r6, hn24, hn42]) rfl ?_
      first
        | exact view_end (w := w) (W := w4) (B := w1.heap.size) (x := ⟨dp, rs, l⟩) (tv := .slice A1 fs.length cap1) (v := .slice EA l.length ec) (fs := fs) (by repeat' first | exact Own.Chg.refl _ _ | (refine chgA ?_ _) | (refine chgS ?_ (.inl rfl)) | (refine chgS ?_ (.inr rfl)) | (refine Own.Chg.trans ?_ (Own.Chg.of_below (Below.refl _ _).drew))) (by omega) rfl H4T.out HTF.out H4E.out HFY.out H4B.out
  have HKS := Lib.hid (fun W (hs : SrcR W p (0 + 100 + 220 + 2)) => l25SubC_any p (0 + 100 + 220 + 2) W hs (by omega))
  have HN4 : Hid (Nodes w4 w4.heap.size A1 fs.length fs) := by
    obtain ⟨A', c', e, _, h1⟩ := H4T.out.reads
    injection e with e1 e2 e3
    subst e1
    exact h1
  have x5 := H45.out.cell 0
  simp at x5
  have hpw4 : p < w4.heap.size := HD4.out.lt
  have hw14 := HD4.out.chg.size
  have HX5 : Hid (w4.cell? ⟨w2.heap.size, 0, none⟩ = some (.slice A1 fs.length cap1)) := x5
  have H4Z : Hid (Blk (w4.alloc (.cells #[.slice none 0 0] 26)) w4.heap.size 26 #[.slice none 0 0]) := heap_alloc_new _ _
  have hq34 : w3.heap.size < w4.heap.size := H46.out.lt
  have HD44 : Hid (Drawn p (0 + 100 + 220 + 2) w4 w4) := Drawn.refl HD4.out.src
  have HSC : Hid (∀ W', DrW p w4 W' → W'.cell? ⟨w2.heap.size, 0, none⟩ = some (.slice A1 fs.length cap1)) := fun W' hd' => by
    obtain ⟨K', hd⟩ := hd'
    have h9 := (Blk.drawn H45.out hd (by omega)).cell 0
    simpa using h9
  go_upto_region 5 with fail
  go_cut [7, 8] (fun yv cv wx => ∃ (q7 : Nat) (A6 : Option Addr) (c6 : Nat) (sb : ByteArray), yv = .pointer (some ⟨q7, 0, none⟩) ∧ cv = .int .i64 (doOneB fs (chgOf (evZ sb))).1 ∧ Hid (Drawn p (0 + 100 + 220 + 2 + 2) w4 wx) ∧ Hid (Blk wx q7 26 #[.slice A6 (doOneB fs (chgOf (evZ sb))).2.length c6]) ∧ Hid (NodesO wx w1.heap.size (.slice A6 (doOneB fs (chgOf (evZ sb))).2.length c6) (doOneB fs (chgOf (evZ sb))).2) ∧ Hid (w4.heap.size ≤ q7) ∧ Hid (fineS sb))
  case first =>
    go_region_held3 (fun W' => W'.cell? ⟨w2.heap.size, 0, none⟩ = some (.slice A1 fs.length cap1))
      (first | (refine HSC.out _ ?_; (repeat (first | with_reducible exact dw_of HD44.out | with_reducible exact dw_of HD5.out | with_reducible exact dw_of HD6.out | with_reducible refine dw_al ?_ | with_reducible refine dw_drew ?_ | (with_reducible refine dw_set ?_ (Nat.le_refl _) (by omega)) | (with_reducible refine dw_set ?_ hw45 (by omega)) | (with_reducible refine dw_set ?_ (by omega) (by omega)))); done))
      (first
        | (go_at_call 83
           with_reducible refine (HKS.out w4.drew (HD4.out.src.later (Below.refl _ _).drew)).mono ?_
           rintro e w5 ⟨sb, rfl, hsb, hd5'⟩
           have hd5 := hd5'.pre (Below.refl _ w4).drew
           have hw4r : w4.heap.size = w4.heap.size := rfl
           have HSB := Lib.hid hsb.2
           have HSM : Hid (EvD.small (evZ sb)) := ev_smallZ hsb.1
           have HD5 := Lib.hid hd5
           have HN5 : Hid (Nodes w5 w5.heap.size A1 fs.length fs) := by
             obtain ⟨A', c', e, _, h1⟩ := (H4T.out.drawn HD4.out.src hd5).reads
             injection e with e1 e2 e3
             subst e1
             exact h1
           have hw45 := hd5.chg.size
           clear hsb hd5 hd5')
        | (go_at_call 83
           with_reducible refine (HKS.out (w4.alloc (.cells #[.slice none 0 0] 26)).drew (HD4.out.src.later (Below.new _ _).drew)).mono ?_
           rintro e w5 ⟨sb, rfl, hsb, hd5'⟩
           have hd5 := hd5'.pre (Below.new w4 (.cells #[.slice none 0 0] 26)).drew
           have HQ5 := Lib.hid (Blk.drawn (show Blk (w4.alloc (.cells #[.slice none 0 0] 26)).drew w4.heap.size 26 #[.slice none 0 0] from H4Z.out) hd5' (by omega))
           have HSB := Lib.hid hsb.2
           have HSM : Hid (EvD.small (evZ sb)) := ev_smallZ hsb.1
           have HD5 := Lib.hid hd5
           have HN5 : Hid (Nodes w5 w5.heap.size A1 fs.length fs) := by
             obtain ⟨A', c', e, _, h1⟩ := (H4T.out.drawn HD4.out.src hd5).reads
             injection e with e1 e2 e3
             subst e1
             exact h1
           have hw45 := hd5.chg.size
           clear hsb hd5 hd5')
        | (go_at_call 82
           with_reducible refine (l25TurnZ A1 fs.length cap1 fs (w5.alloc (.cells #[.string sb] 9)) w5.heap.size sb _ (HN5.out.later (Below.new _ _)) hcap1 (tree_small HTF.out.1) (sub_one w5 sb w5.heap.size (Nat.le_refl _)) HSM.out).mono ?_
           rintro e w6 ⟨tv6, rfl, hn6, hb6⟩
           obtain ⟨A6, c6, rfl, hc6, _⟩ := hn6.reads
           have HB6 := Lib.hid (Below.later (Below.new w5 (.cells #[.string sb] 9)) hb6)
           have HD6 := Lib.hid (HD5.out.later HB6.out)
           have HN6 := Lib.hid (hn6.base (show w1.heap.size ≤ (w5.alloc (.cells #[.string sb] 9)).heap.size by simp; omega))
           (try (have HQ6 := Lib.hid (HQ5.out.later HB6.out HQ5.out.lt); have u0 := HQ6.out.cell 0; have g0 := HQ6.out.frozen 0; have gz := HQ6.out.lt; simp at u0))
           clear hn6 hb6)
        | (go_at_call 82
           with_reducible refine (l25TurnZ A1 fs.length cap1 fs ((w5.alloc (.cells #[.string sb] 9)).alloc (.cells #[.slice none 0 0] 26)) w5.heap.size sb _ (HN5.out.later ((Below.new _ _).later (Below.new _ _))) hcap1 (tree_small HTF.out.1) (sub_later (sub_one w5 sb w5.heap.size (Nat.le_refl _)) (Below.new _ _)) HSM.out).mono ?_
           rintro e w6 ⟨tv6, rfl, hn6, hb6⟩
           obtain ⟨A6, c6, rfl, hc6, _⟩ := hn6.reads
           have HB6 := Lib.hid (Below.later ((Below.new w5 (.cells #[.string sb] 9)).later (Below.new _ (.cells #[.slice none 0 0] 26))) hb6)
           have HD6 := Lib.hid (HD5.out.later HB6.out)
           have HN6 := Lib.hid (hn6.base (show w1.heap.size ≤ ((w5.alloc (.cells #[.string sb] 9)).alloc (.cells #[.slice none 0 0] 26)).heap.size by simp; omega))
           (try (have HQ6 := Lib.hid (Blk.later (heap_two1 w5 (.cells #[.string sb] 9) (.cells #[.slice none 0 0] 26)) hb6 (by simp)); have u0 := HQ6.out.cell 0; have g0 := HQ6.out.frozen 0; have gz := HQ6.out.lt; simp at u0))
           clear hn6 hb6)
        | (go_at_call 82
           with_reducible refine (l25TurnZ A1 fs.length cap1 fs ((w5.alloc (.cells #[.slice none 0 0] 26)).alloc (.cells #[.string sb] 9)) w5.heap.size sb _ (HN5.out.later ((Below.new _ _).later (Below.new _ _))) hcap1 (tree_small HTF.out.1) (sub_oneG (w5.alloc (.cells #[.slice none 0 0] 26)) sb w5.heap.size (w5.heap.size + 1) (al_size _ _) (Below.new w5 _).size) HSM.out).mono ?_
           rintro e w6 ⟨tv6, rfl, hn6, hb6⟩
           obtain ⟨A6, c6, rfl, hc6, _⟩ := hn6.reads
           have HB6 := Lib.hid (Below.later ((Below.new w5 (.cells #[.slice none 0 0] 26)).later (Below.new _ (.cells #[.string sb] 9))) hb6)
           have HD6 := Lib.hid (HD5.out.later HB6.out)
           have HN6 := Lib.hid (hn6.base (show w1.heap.size ≤ ((w5.alloc (.cells #[.slice none 0 0] 26)).alloc (.cells #[.string sb] 9)).heap.size by simp; omega))
           (try (have HQ6 := Lib.hid (Blk.later (heap_two0 w5 (.cells #[.slice none 0 0] 26) (.cells #[.string sb] 9)) hb6 (by simp; omega)); have u0 := HQ6.out.cell 0; have g0 := HQ6.out.frozen 0; have gz := HQ6.out.lt; simp at u0))
           clear hn6 hb6))
    all_goals
      have hg7 := HD6.out.chg.size
      go_wp2_with fail
      go_meet
    all_goals
      first
        | exact ⟨w6.heap.size, _, _, sb, rfl, rfl, HD6.out.later (Below.new _ _), heap_last rfl, HN6.out.later (Below.new _ _), hg7, HSB.out⟩
        | exact ⟨_, _, _, sb, rfl, rfl, HD6.out.set (show w4.heap.size ≤ _ by omega) hpw4 0 _, (by unfold Hid; have h := HQ6.out.set_ 0 (.slice A6 (doOneB fs (chgOf (evZ sb))).2.length c6); simpa using h), HN6.out.setBlk HQ6.out (by decide) (by decide), (by unfold Hid; omega), HSB.out⟩
  case rest =>
    obtain ⟨q7, A6, c6, sb, rfl, rfl, HDZ, HQ7, HNZ, hq7, hsb⟩ := hcut
    have hq7' := hq7.out
    have HFT := Lib.hid (fine_doOne (fs := fs) (e := evZ sb) HTF.out.2 (fun s hs => by rw [List.mem_singleton.1 hs]; exact hsb.out) okV_z)
    have HTT := Lib.hid (doOne_tree (fs := fs) (c := chgOf (evZ sb)))
    generalize doOneB fs (chgOf (evZ sb)) = R at *
    obtain ⟨tc, gs⟩ := R
    dsimp only at HFT HTT HNZ HQ7 ⊢
    have HZT := Lib.hid (H4T.out.drawn HD4.out.src HDZ.out)
    have HZE := Lib.hid (H4E.out.drawn HD4.out.src HDZ.out)
    have HZ2 := Lib.hid (Blk.drawn H42.out HDZ.out (by omega))
    have HZ4 := Lib.hid (Blk.drawn H44.out HDZ.out (by omega))
    have HZ5 := Lib.hid (Blk.drawn H45.out HDZ.out (by omega))
    have HZ6 := Lib.hid (Blk.drawn H46.out HDZ.out (by omega))
    have HZD := Lib.hid (HD4.out.trans HDZ.out)
    have HZB := Lib.hid (Own.Chg.below HB1.out HZD.out.chg (fun g e => by rw [e, ← hp]; omega) (Nat.le_refl _))
    try clear x5
    by_cases htc : tc = 0
    case neg =>
      have htb : (tc == (0 : Int)) = false := beq_eq_false_iff_ne.2 htc
      go_upto_region 8 with fail
      have r2 := HZ2.out.cell 0
      have r4 := HZ4.out.cell 0
      have r5 := HZ4.out.cell 1
      have r6 := HZ4.out.cell 2
      have f2 := HZ2.out.frozen 0
      have f4 := HZ4.out.frozen 0
      have f5 := HZ4.out.frozen 1
      have f6 := HZ4.out.frozen 2
      have l2 := HZ2.out.lt
      have l4 := HZ4.out.lt
      have x0 := HZ5.out.cell 0
      have y0 := HZ6.out.cell 0
      have y1 := HZ6.out.cell 1
      have y2 := HZ6.out.cell 2
      have hn24 : ¬ w.heap.size = w.heap.size + 1 := by omega
      have hn42 : ¬ w.heap.size + 1 = w.heap.size := by omega
      have hn2x : ¬ w.heap.size = w2.heap.size := by omega
      have hnx2 : ¬ w2.heap.size = w.heap.size := by omega
      have hn4x : ¬ w.heap.size + 1 = w2.heap.size := by omega
      have hnx4 : ¬ w2.heap.size = w.heap.size + 1 := by omega
      have hn2y : ¬ w.heap.size = w3.heap.size := by omega
      have hny2 : ¬ w3.heap.size = w.heap.size := by omega
      have hn4y : ¬ w.heap.size + 1 = w3.heap.size := by omega
      have hny4 : ¬ w3.heap.size = w.heap.size + 1 := by omega
      simp at r2 r4 r5 r6 x0 y0 y1 y2
      go_wp2_with fail
      go_region
      all_goals go_wp2_with fail
      all_goals
        refine bodyPost_ret (v := .tuple #[.agg #[.slice A1 fs.length cap1], .agg #[.int .i64 dp, .int .i64 rs, .slice EA l.length ec]]) (by simp [results, Tryz.results26, go_sem, r2, r4, r5, r6, hn24, hn42]) rfl ?_
        first
          | exact view_end (w := w) (W := wc) (B := w1.heap.size) (x := ⟨dp, rs, l⟩) (tv := .slice A1 fs.length cap1) (v := .slice EA l.length ec) (fs := fs) (by repeat' first | exact Own.Chg.refl _ _ | (refine chgA ?_ _) | (refine chgS ?_ (.inl rfl)) | (refine chgS ?_ (.inr rfl)) | (refine Own.Chg.trans ?_ (Own.Chg.of_below (Below.refl _ _).drew))) (by omega) rfl HZT.out HTF.out HZE.out HFY.out HZB.out
    subst htc
    have q7c := HQ7.out.cell 0
    have z5f := HZ5.out.frozen 0
    have z5z := HZ5.out.lt
    have z5c := HZ5.out.cell 0
    simp at q7c z5c
    go_upto_region 8 with fail
    obtain ⟨WF, hWF⟩ : ∃ WF, WF = wc.setCell ⟨w2.heap.size, 0, none⟩ (.slice A6 gs.length c6) := ⟨_, rfl⟩
    rw [← hWF]
    have HF5 : Hid (Blk WF w2.heap.size 26 #[.slice A6 gs.length c6]) := by subst hWF; have h := HZ5.out.set_ 0 (.slice A6 gs.length c6); unfold Hid; simpa using h
    have HF2 : Hid (Blk WF w.heap.size 26 #[.slice none 0 0]) := by subst hWF; exact HZ2.out.far (p := ⟨w2.heap.size, 0, none⟩) (show w.heap.size ≠ w2.heap.size by omega) _
    have HF4 : Hid (Blk WF (w.heap.size + 1) 58 #[.int .i64 0, .int .i64 0, .slice none 0 0]) := by subst hWF; exact HZ4.out.far (p := ⟨w2.heap.size, 0, none⟩) (show w.heap.size + 1 ≠ w2.heap.size by omega) _
    have HF6 : Hid (Blk WF w3.heap.size 58 #[.int .i64 dp, .int .i64 rs, .slice EA l.length ec]) := by subst hWF; exact HZ6.out.far (p := ⟨w2.heap.size, 0, none⟩) (show w3.heap.size ≠ w2.heap.size by omega) _
    have HFT' : Hid (NodesO WF w1.heap.size (.slice A6 gs.length c6) gs) := by subst hWF; exact HNZ.out.setBlk HZ5.out (by decide) (by decide)
    have HFE : Hid (EvsO WF w1.heap.size (.slice EA l.length ec) l) := by subst hWF; exact HZE.out.setBlk HZ5.out (by decide) (by decide)
    have HFB : Hid (Below w.heap.size w WF) := by subst hWF; exact HZB.out.setCell (p := ⟨w2.heap.size, 0, none⟩) (show w.heap.size ≤ w2.heap.size by omega) _
    have HGF : Hid (treeB gs = true ∧ fineT gs) := ⟨HTT.out rfl, HFT.out⟩
    clear hWF q7c z5f z5z z5c
    have r2 := HF2.out.cell 0
    have r4 := HF4.out.cell 0
    have r5 := HF4.out.cell 1
    have r6 := HF4.out.cell 2
    have f2 := HF2.out.frozen 0
    have f4 := HF4.out.frozen 0
    have f5 := HF4.out.frozen 1
    have f6 := HF4.out.frozen 2
    have l2 := HF2.out.lt
    have l4 := HF4.out.lt
    have x0 := HF5.out.cell 0
    have y0 := HF6.out.cell 0
    have y1 := HF6.out.cell 1
    have y2 := HF6.out.cell 2
    have hn24 : ¬ w.heap.size = w.heap.size + 1 := by omega
    have hn42 : ¬ w.heap.size + 1 = w.heap.size := by omega
    have hn2x : ¬ w.heap.size = w2.heap.size := by omega
    have hnx2 : ¬ w2.heap.size = w.heap.size := by omega
    have hn4x : ¬ w.heap.size + 1 = w2.heap.size := by omega
    have hnx4 : ¬ w2.heap.size = w.heap.size + 1 := by omega
    have hn2y : ¬ w.heap.size = w3.heap.size := by omega
    have hny2 : ¬ w3.heap.size = w.heap.size := by omega
    have hn4y : ¬ w.heap.size + 1 = w3.heap.size := by omega
    have hny4 : ¬ w3.heap.size = w.heap.size + 1 := by omega
    simp at r2 r4 r5 r6 x0 y0 y1 y2
    go_wp2_with fail
    go_region
    all_goals go_wp2_with fail
    all_goals
      refine bodyPost_ret (v := .tuple #[.agg #[.slice A6 gs.length c6], .agg #[.int .i64 dp, .int .i64 rs, .slice EA l.length ec]]) (by simp [results, Tryz.results26, go_sem, r2, r4, r5, r6, hn24, hn42]) rfl ?_
      first
        | exact view_end (w := w) (W := WF) (B := w1.heap.size) (x := ⟨dp, rs, l⟩) (tv := .slice A6 gs.length c6) (v := .slice EA l.length ec) (fs := gs) (by repeat' first | exact Own.Chg.refl _ _ | (refine chgA ?_ _) | (refine chgS ?_ (.inl rfl)) | (refine chgS ?_ (.inr rfl)) | (refine Own.Chg.trans ?_ (Own.Chg.of_below (Below.refl _ _).drew))) (by omega) rfl HFT'.out HGF.out HFE.out HFY.out HFB.out
end Go.Proofs.YtgmaamnofhmecaaGreatDoor
namespace Go.Proofs.YtgmaamnofhmecaaGreatDoor
open Go.RowKit
set_option linter.unusedVariables false
set_option linter.unusedSimpArgs false

theorem rep_lt : ∀ (l : List EvD) (fs : List NodeD) (i : Nat), (repB fs l i).1 ≠ 0 → (repB fs l i).2.1 < i + l.length
  | [], _, _, h => absurd rfl h
  | e :: r, fs, i, h => by
    unfold repB at h ⊢
    by_cases h1 : (applyB fs e).1 = 0
    · rw [if_pos h1] at h ⊢
      have := rep_lt r _ (i + 1) h
      rw [List.length_cons]
      omega
    · rw [if_neg h1]
      show i < i + (r.length + 1)
      omega
theorem repl_lt {fs : List NodeD} {l : List EvD} (ht : treeB fs = true) (hn : notesB l = true) (h : (replB fs l).1 ≠ 0) : (replB fs l).2.1 < l.length := by
  rw [repl_of ht hn] at h ⊢
  have := rep_lt l fs 0 h
  omega

set_option maxRecDepth 100000 in
set_option maxHeartbeats 40000000 in
theorem fnCi_walk (A : Option Addr) (n c : Nat) (w : World) (htab : tabT w) (h : BytesR w w.heap.size A n) (hn : n ≤ 9223372036854775807) :
    Calls Tryz.prog 6 #[.slice A n c] w fun e w' => e = .returned (.bool true) ∧ Below w.heap.size w w' := by
  have HK1 := Lib.hid (c2Big2_any A n c none 0 0 w hn (by omega))
  by_cases hbig : (decide (1048576 < n) || decide (1048576 < 0)) = true
  · rw [hbig] at HK1
    clear h htab
    go_enter Tryz.func6, Tryz.ntmps6
    go_wp2_with fail
    refine HK1.out.mono ?_
    rintro e w1 ⟨rfl, rfl⟩
    go_wp2_with fail
    go_ret
    exact ⟨rfl, Below.refl _ _⟩
  rw [Bool.not_eq_true] at hbig
  rw [hbig] at HK1
  have hn6 : n ≤ 1048576 := by simp at hbig; omega
  have HK2 := Lib.hid (DrawCommitTrans_any A n c w h hn6)
  have HTB := Lib.hid htab
  clear h htab hbig
  go_enter Tryz.func6, Tryz.ntmps6
  go_wp2_with fail
  refine HK1.out.mono ?_
  rintro e w1 ⟨rfl, rfl⟩
  go_wp2_with fail
  refine HK2.out.mono ?_
  rintro e w1 ⟨tv, fs, ev, x, rfl, hT, htr, hfi, hev, hy, hb1⟩
  obtain ⟨dp, rs, l⟩ := x
  dsimp only at hev hy ⊢
  obtain ⟨A1, cap1, rfl, hcap1, hN⟩ := hT.reads
  obtain ⟨EA, ec, rfl, hec, hE⟩ := hev.reads
  obtain ⟨hy1, hy2, hy3, hy4, hy5, hy6⟩ := hy
  dsimp only at hy1 hy2 hy3 hy4 hy5 hy6
  have hok : okEs l := ⟨by omega, fun d hd => (hy6 d hd).1.1⟩
  have hce : cleanEs l := fun d hd => (hy6 d hd).1.2
  have hts := tree_small htr
  have hcl := fine_clean hfi
  have hsl : smallEs l := ⟨hok.1, fun e he => (hok.2 e he).1⟩
  obtain ⟨WX, hWX⟩ : ∃ WX, WX = (w1.alloc (.cells #[.slice A1 fs.length cap1] 26)).alloc (.cells #[.int .i64 dp, .int .i64 rs, .slice EA l.length ec] 58) := ⟨_, rfl⟩
  have HBX : Hid (Below w1.heap.size w1 WX) := by subst hWX; exact (Below.new _ _).later (Below.new _ _)
  have HX0 : Hid (Blk WX w1.heap.size 26 #[.slice A1 fs.length cap1]) := by subst hWX; exact heap_two0 _ _ _
  have HX1 : Hid (Blk WX (w1.heap.size + 1) 58 #[.int .i64 dp, .int .i64 rs, .slice EA l.length ec]) := by subst hWX; exact heap_two1 _ _ _
  have HS1 : Hid (∀ W', Below WX.heap.size WX W' → (W'.cell? ⟨w1.heap.size, 0, none⟩ = some (.slice A1 fs.length cap1) ∧ W'.cell? ⟨w1.heap.size + 1, 0, none⟩ = some (.int .i64 dp) ∧ W'.cell? ⟨w1.heap.size + 1, 1, none⟩ = some (.int .i64 rs) ∧ W'.cell? ⟨w1.heap.size + 1, 2, none⟩ = some (.slice EA l.length ec))) := fun W' hW => ⟨(HX0.out.later hW HX0.out.lt).at 0 rfl, (HX1.out.later hW HX1.out.lt).at 0 rfl, (HX1.out.later hW HX1.out.lt).at 1 rfl, (HX1.out.later hW HX1.out.lt).at 2 rfl⟩
  have HNX : Hid (∀ W, Below WX.heap.size WX W → Nodes W W.heap.size A1 fs.length fs) := fun W hW => hN.later (HBX.out.later hW)
  have HLX : Hid (∀ W, Below WX.heap.size WX W → Evs W W.heap.size EA l.length l) := fun W hW => hE.later (HBX.out.later hW)
  have HBW : Hid (Below w.heap.size w WX) := hb1.later HBX.out
  have HTT : Hid (∀ W, Below WX.heap.size WX W → tabT W) := fun W hW => tab_later HTB.out (HBW.out.later hW)
  have HKI := Lib.hid (fun W (hW : Below WX.heap.size WX W) => CommitTrans_any A1 fs.length cap1 fs dp rs EA l.length ec l W (HTT.out W hW) (HNX.out W hW) hts hcl (HLX.out W hW) hok hce)
  have HKS := Lib.hid (fun W (hW : Below WX.heap.size WX W) => specCommitTrans_any A1 fs.length cap1 fs dp rs EA l.length ec l W (HNX.out W hW) hcap1 hts hcl (HLX.out W hW) hok hce)
  have HKO := Lib.hid (fun W (hW : Below WX.heap.size WX W) => specTransOk_any dp rs EA l.length ec l W (HLX.out W hW) hok)
  have HKR := Lib.hid (fun W (hW : Below WX.heap.size WX W) => Replay_any A1 fs.length cap1 EA l.length ec fs l W (HTT.out W hW) (HNX.out W hW) hts hcl (HLX.out W hW) hok hce)
  have HGT := Lib.hid (fun h0 => repl_tree (fs := fs) (l := l) h0)
  have HPL : Hid (transB ⟨dp, rs, l⟩ = true → dp = 1 → (commitB fs ⟨dp, rs, l⟩ = if (replB fs l).1 ≠ 0 then ((replB fs l).1, zeroT, [], []) else (0, zeroT, (replB fs l).2.2, chgsOf l)) ∧ ((replB fs l).1 ≠ 0 → (replB fs l).2.1 < l.length)) := fun h1 h2 => by
    subst h2
    exact ⟨commit_one htr h1, repl_lt htr (trans_parts h1).2.2.2.2.1⟩
  clear hN hE hev hT hb1 HTB hok hce htr hfi hcl hy1 hy2 hy3 hy4 hy5 hy6 hts hsl HNX HLX HTT
  generalize commitB fs ⟨dp, rs, l⟩ = CB at *
  obtain ⟨cc, ⟨cd, cr, ce⟩, cg, ch⟩ := CB
  dsimp only at HKI HKS HPL
  obtain ⟨z0, z1, z2, z3⟩ := HS1.out _ (Below.refl _ _)
  go_wp2_with fail
  rw [← hWX]
  clear hWX
  refine (HKI.out _ (Below.refl _ _)).mono ?_
  rintro e w2 ⟨v2, tv2, cv2, rfl, hv2, ht2, hc2, hb2⟩
  dsimp only at hv2 ht2 hc2 ⊢
  obtain ⟨AT, ct, rfl, hct, hNT⟩ := ht2.reads
  obtain ⟨AC, cpc, rfl, _, _⟩ := hc2.reads
  obtain ⟨AV, cv, rfl, _, _⟩ := hv2.reads
  have HB2 := Lib.hid hb2
  obtain ⟨WY, hWY⟩ : ∃ WY, WY = (w2.alloc (.cells #[.int .i64 cd, .int .i64 cr, .slice AV ce.length cv] 58)).alloc (.cells #[.slice AT cg.length ct] 26) := ⟨_, rfl⟩
  have H2Y : Hid (Below w2.heap.size w2 WY) := by subst hWY; exact (Below.new _ _).later (Below.new _ _)
  have HBY := Lib.hid (hb2.later H2Y.out)
  have HQ1 : Hid (Blk WY (w2.heap.size + 1) 26 #[.slice AT cg.length ct]) := by subst hWY; exact heap_two1 _ _ _
  have HNG : Hid (∀ W, Below WY.heap.size WY W → Nodes W W.heap.size AT cg.length cg) := fun W hW => hNT.later (H2Y.out.later hW)
  clear hb2 hv2 ht2 hc2 hNT z0 z1 z2 z3 HKI
  obtain ⟨z0, z1, z2, z3⟩ := HS1.out _ HB2.out
  have hz1 : w1.heap.size + 1 < w2.heap.size := Nat.lt_of_lt_of_le HX1.out.lt HB2.out.size
  have hz0 : w1.heap.size < w2.heap.size := by omega
  go_wp2_with fail
  try rw [← hWY]
  clear z0 z1 z2 z3 hz0 hz1 hWY
  obtain ⟨z0, z1, z2, z3⟩ := HS1.out _ HBY.out
  go_wp2_with fail
  refine (HKS.out _ HBY.out).mono ?_
  rintro e w3 ⟨B1, B2, B3, n1, q1, n2, q2, n3, q3, sd, sr, rfl, hb3⟩
  have HB3 := Lib.hid (HBY.out.later hb3)
  have HY3 := Lib.hid hb3
  obtain ⟨WZ, hWZ⟩ : ∃ WZ, WZ = (w3.alloc (.cells #[.int .i64 sd, .int .i64 sr, .slice B1 n1 q1] 58)).alloc (.cells #[.slice B2 n2 q2] 26) := ⟨_, rfl⟩
  have H3Z : Hid (Below w3.heap.size w3 WZ) := by subst hWZ; exact (Below.new _ _).later (Below.new _ _)
  have HBZ := Lib.hid (HB3.out.later H3Z.out)
  have HYZ := Lib.hid (hb3.later H3Z.out)
  clear hb3 z0 z1 z2 z3 HKS
  obtain ⟨z0, z1, z2, z3⟩ := HS1.out _ HB3.out
  have hcc : ((cc != cc) : Bool) = false := by simp
  have hz1 : w1.heap.size + 1 < w3.heap.size := Nat.lt_of_lt_of_le HX1.out.lt HB3.out.size
  have hz0 : w1.heap.size < w3.heap.size := by omega
  go_wp2_with fail
  try rw [← hWZ]
  clear z0 z1 z2 z3 hz0 hz1 hWZ
  obtain ⟨z0, z1, z2, z3⟩ := HS1.out _ HBZ.out
  go_wp2_with fail
  refine (HKO.out _ HBZ.out).mono ?_
  rintro e w4 ⟨rfl, hb4⟩
  have HB4 := Lib.hid (HBZ.out.later hb4)
  have HY4 := Lib.hid (HYZ.out.later hb4)
  clear hb4 z0 z1 z2 z3 HKO
  obtain ⟨z0, z1, z2, z3⟩ := HS1.out _ HB4.out
  generalize transB ⟨dp, rs, l⟩ = xb at *
  cases xb
  case false =>
    go_wp2_with fail
    go_ret
    exact ⟨rfl, HBW.out.later HB4.out⟩
  by_cases hd1 : dp = 1
  case neg =>
    have hdb : (dp != (1 : Int)) = true := by simpa using hd1
    go_wp2_with fail
    go_ret
    exact ⟨rfl, HBW.out.later HB4.out⟩
  obtain ⟨hcb, hlt⟩ := HPL.out (by first | rfl | trivial) hd1
  subst hd1
  have HCB := Lib.hid hcb
  have HLT := Lib.hid hlt
  clear hcb hlt HPL
  generalize replB fs l = RB at *
  obtain ⟨rc, rat, rg⟩ := RB
  dsimp only at HCB HLT HGT
  go_wp2_with fail
  refine (HKR.out _ HB4.out).mono ?_
  rintro e w5 ⟨v5, rfl, hv5, hb5⟩
  dsimp only at hv5 ⊢
  obtain ⟨A5, c5, rfl, hc5, hN5⟩ := hv5.reads
  have HB5 := Lib.hid (HB4.out.later hb5)
  have HY5 := Lib.hid (HY4.out.later hb5)
  obtain ⟨WV, hWV⟩ : ∃ WV, WV = w5.alloc (.cells #[.slice A5 rg.length c5] 26) := ⟨_, rfl⟩
  have H5V : Hid (Below w5.heap.size w5 WV) := by subst hWV; exact Below.new _ _
  have HQV : Hid (Blk WV w5.heap.size 26 #[.slice A5 rg.length c5]) := by subst hWV; exact heap_alloc_new _ _
  have HNV : Hid (Nodes WV WV.heap.size A5 rg.length rg) := hN5.later H5V.out
  have HBV := Lib.hid (HB5.out.later H5V.out)
  clear hb5 hv5 hN5 z0 z1 z2 z3 HKR
  by_cases hr0 : rc = 0
  case neg =>
    have hcb := HCB.out
    rw [if_pos hr0] at hcb
    injection hcb with e1 e2
    subst e1
    have hrb : (cc != (0 : Int)) = true := by simpa using hr0
    have hrr : (cc == cc) = true := by simp
    have hlt := HLT.out hr0
    have hat0 : (0 : Int) ≤ (rat : Int) := by omega
    have hat1 : (rat : Int) < (l.length : Int) := by omega
    obtain ⟨z0, z1, z2, z3⟩ := HS1.out _ HB5.out
    have hz1 : w1.heap.size + 1 < w5.heap.size := Nat.lt_of_lt_of_le HX1.out.lt HB5.out.size
    go_wp2_with fail
    go_ret
    exact ⟨ret_bool (by simp [hrr, hat0, hat1]), (HBW.out.later HB5.out).later (Below.new _ _)⟩
  have hcb := HCB.out
  rw [if_neg (by omega)] at hcb
  injection hcb with e1 e2
  injection e2 with e2 e3
  injection e3 with e3 e4
  have e5 := e3.symm
  subst hr0 e1 e5
  have hgt := HGT.out rfl
  have hgs := tree_small hgt
  have HKT := Lib.hid (specSameTree_any AT A5 rg.length ct rg.length c5 rg rg WV (HNG.out _ (HY5.out.later H5V.out)) HNV.out hgs hgs)
  rw [decide_eq_true rfl] at HKT
  have yq := HQ1.out.later HY5.out HQ1.out.lt
  have y0 := yq.cell 0
  have yz := yq.lt
  simp at y0
  clear yq
  go_wp2_with fail
  try rw [← hWV]
  clear hWV y0 yz
  refine HKT.out.mono ?_
  rintro e w7 ⟨rfl, hb7⟩
  have HB7 := Lib.hid (HBV.out.later hb7)
  go_wp2_with fail
  go_ret
  exact ⟨rfl, HBW.out.later HB7.out⟩
end Go.Proofs.YtgmaamnofhmecaaGreatDoor
