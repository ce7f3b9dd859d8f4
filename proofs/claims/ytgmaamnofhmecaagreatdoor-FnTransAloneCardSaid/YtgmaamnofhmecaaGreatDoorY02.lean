/-
  FnTransAlone returns true at all bytes: the walk. (Printed by gen_fnta.py.)
-/
import Derived.Test.YtgmaamnofhmecaaGreatDoorZ00
import Derived.Test.YtgmaamnofhmecaaGreatDoorZ01
import Derived.Test.YtgmaamnofhmecaaGreatDoorZ02
import Derived.Test.YtgmaamnofhmecaaGreatDoorZ03
import Derived.Test.YtgmaamnofhmecaaGreatDoorZ04
import Derived.Test.YtgmaamnofhmecaaGreatDoorZ05
import Derived.Test.YtgmaamnofhmecaaGreatDoorZ06
import Derived.Test.YtgmaamnofhmecaaGreatDoorZ07
import Derived.Test.YtgmaamnofhmecaaGreatDoorZ08
import Derived.Test.YtgmaamnofhmecaaGreatDoorZ09
import Derived.Test.YtgmaamnofhmecaaGreatDoorZ10
import Derived.Test.YtgmaamnofhmecaaGreatDoorZ11
import Derived.Test.YtgmaamnofhmecaaGreatDoorZ12
import Derived.Test.YtgmaamnofhmecaaGreatDoorZ13
import Derived.Test.YtgmaamnofhmecaaGreatDoorZ14
import Derived.Test.YtgmaamnofhmecaaGreatDoorZ15
import Derived.Test.YtgmaamnofhmecaaGreatDoorZ16
import Derived.Test.YtgmaamnofhmecaaGreatDoorZ17
import Derived.Test.YtgmaamnofhmecaaGreatDoorZ18
import Derived.Test.YtgmaamnofhmecaaGreatDoorZ19
import Derived.Test.YtgmaamnofhmecaaGreatDoorZ20
import Derived.Test.YtgmaamnofhmecaaGreatDoorZ21
import Derived.Test.YtgmaamnofhmecaaGreatDoorZ22
import Derived.Test.YtgmaamnofhmecaaGreatDoorZ23
import Derived.Test.YtgmaamnofhmecaaGreatDoorZ24
import Derived.Test.YtgmaamnofhmecaaGreatDoorZ25
import Derived.Test.YtgmaamnofhmecaaGreatDoorZ26
import Derived.Test.YtgmaamnofhmecaaGreatDoorZ27
import Derived.Test.YtgmaamnofhmecaaGreatDoorZ28
import Derived.Test.YtgmaamnofhmecaaGreatDoorZ29
import Derived.Test.YtgmaamnofhmecaaGreatDoorZ30
import Derived.Test.YtgmaamnofhmecaaGreatDoorZ31
import Derived.Test.YtgmaamnofhmecaaGreatDoorZ32
import Derived.Test.YtgmaamnofhmecaaGreatDoorZ33
import Derived.Test.YtgmaamnofhmecaaGreatDoorZ34
import Derived.Test.YtgmaamnofhmecaaGreatDoorZ35
import Derived.Test.YtgmaamnofhmecaaGreatDoorZ36
import Derived.Test.YtgmaamnofhmecaaGreatDoorZ37
import Derived.Test.YtgmaamnofhmecaaGreatDoorZ38
import Derived.Test.YtgmaamnofhmecaaGreatDoorZ39
import Derived.Test.YtgmaamnofhmecaaGreatDoorZ40
import Derived.Test.YtgmaamnofhmecaaGreatDoorZ41
import Derived.Test.YtgmaamnofhmecaaGreatDoorZ42
import Derived.Test.YtgmaamnofhmecaaGreatDoorZ43
import Derived.Test.YtgmaamnofhmecaaGreatDoorY00
import Derived.Test.YtgmaamnofhmecaaGreatDoorY01
import Derived.Test.YtgmaamnofhmecaaGreatDoorProg
import Derived.BigQuiet
import Derived.Deep.AppendLies
import Derived.Deep.CutBlock
import Derived.Deep.DeepCutAuto
import Derived.Deep.QuietTactic
import Derived.Deep.RegionHeld3
import Derived.Deep.RegionLaw
import Derived.Deep.RegionWith
import Derived.Ground.GgwProg
import Derived.Ground.Names2Prog
import Derived.Ground.SlgnProg
import Derived.IntWalk
import Derived.Laws.BitsAllLaws
import Derived.Laws.CopyOwn
import Derived.Laws.CopyRow
import Derived.Laws.OwnMore
import Derived.Lib.AppendIntMem
import Derived.Lib.Hide
import Derived.Lib.IndexAny
import Derived.Lib.ItoaNum
import Derived.Lib.Join
import Derived.Lib.SlTrimSet
import Derived.Lib.SliceRun
import Derived.Lib.SplitLaws
import Derived.Lib.Strings
import Derived.Lib.TrimUEq
import Derived.Maps.AppendAt
import Derived.OwnWalk
import Derived.RegionTactic
import Derived.Shelf.GgClosure.StringsIndexFunc
import Derived.Shelf.GgClosure.StringsIndexFuncTop
import Derived.Shelf.LaysM
import Derived.Shelf.Slices.Cells
import Derived.Shelf.Slices.Clone
import Derived.Shelf.Slices.CompactS
import Derived.Shelf.Slices.Empties2
import Derived.Shelf.Slices.Equal
import Derived.Shelf.Slices.Turned
import Derived.Shelf.SlicesE.Clone
import Derived.Shelf.SlicesG.SearchI
import Derived.Shelf.Small.Bits
import Derived.Shelf.Small.Strs
import Derived.Shelf.Small.Utf8
import Derived.Shelf.Small.Wraps
import Derived.Shelf.Strconv.Itoa0
import Derived.Shelf.Strconv.Itoa1
import Derived.Shelf.Strconv.Itoa2
import Derived.Shelf.Strconv.Itoa3
import Derived.Shelf.Strconv.Itoa4
import Derived.Shelf.Strings.AsciiSet
import Derived.Shelf.Strings.Builder1
import Derived.Shelf.Strings.Builder2
import Derived.Shelf.Strings.Count
import Derived.Shelf.Strings.Explode
import Derived.Shelf.Strings.FuncGrows
import Derived.Shelf.Strings.OnBuilder
import Derived.Shelf.Strings.Prefix
import Derived.Shelf.Strings.Replace
import Derived.Shelf.Strings.RuneCount
import Derived.Shelf.Strings.Runes
import Derived.Shelf.Strings.Search1
import Derived.Shelf.Strings.Search2
import Derived.Shelf.Strings.Search3
import Derived.Shelf.Strings.Shaped
import Derived.Shelf.Strings.SlTrimAscii
import Derived.Shelf.Strings.Split
import Derived.Shelf.Strings.SplitShaped
import Derived.Shelf.Strings.Trim
import Derived.Shelf.Unicode.Decode
import Derived.Shelf.Unicode.DecodeAny
import Derived.Shelf.Unicode.DecodeLast
import Derived.Shelf.Unicode.DecodeSlow
import Derived.Shelf.Unicode.PredsPay
import Derived.Shelf.Utf8.RuneCount
import Derived.WalkKit
import Derived.WalkLawsBesides
import Derived.WalkSpells
set_option linter.unusedSimpArgs false
namespace Go.Proofs.YtgmaamnofhmecaaGreatDoor
open Go.RowKit
set_option linter.unusedVariables false
set_option linter.unusedSimpArgs false

theorem commit_bad {fs : List NodeD} {d r : Int} {l : List EvD} (h : transB ⟨d, r, l⟩ = false ∨ d = 0) : ∃ code, commitB fs ⟨d, r, l⟩ = (code, zeroT, [], []) ∧ code ≠ 0 := by
  unfold commitB
  by_cases h1 : (treeB fs && transB ⟨d, r, l⟩) = false
  · exact ⟨1, by rw [if_pos h1], by decide⟩
  · rw [if_neg h1]
    have h2 : d = 0 := by
      rcases h with h | h
      · rw [h, Bool.and_false] at h1
        exact absurd rfl h1
      · exact h
    exact ⟨17, by rw [if_pos h2], by decide⟩
/-- The end of an undisturbed transaction. -/
theorem alone_is {fs : List NodeD} {r : Int} {l : List EvD} (ht : treeB fs = true) (hx : transB ⟨1, r, l⟩ = true) :
    ((replB fs l).1 ≠ 0 → commitB fs ⟨1, r, l⟩ = ((replB fs l).1, zeroT, [], [])) ∧
    ((replB fs l).1 = 0 → commitB fs ⟨1, r, l⟩ = (0, zeroT, (replB fs l).2.2, chgsOf l) ∧ viewB fs l = (0, (replB fs l).2.2) ∧ doChangesB fs (chgsOf l) = (0, (replB fs l).2.2) ∧ treeB (replB fs l).2.2 = true) := by
  have hn := (trans_parts hx).2.2.2.2.1
  refine ⟨fun h0 => ?_, fun h0 => ?_⟩
  · rw [commit_one ht hx, if_pos h0]
  · have hv := repl_view ht hn h0
    refine ⟨?_, hv, hv, repl_tree h0⟩
    rw [commit_one ht hx, if_neg (by omega)]
theorem viewOf_is {fs : List NodeD} {x : TransD} (ht : treeB fs = true) (hx : transB x = true) : viewOfB fs x = viewB fs x.evs := by
  unfold viewOfB
  rw [ht, hx]
  rfl
theorem trans_down {d d' r : Int} {l : List EvD} (h : transB ⟨d, r, l⟩ = true) (h0 : 1 ≤ d') (h1 : d' ≤ d) : transB ⟨d', r, l⟩ = true := by
  obtain ⟨p0, p1, p2, p3, p4, p5⟩ := trans_parts h
  dsimp only at p0 p1 p2 p3 p4 p5
  exact trans_of (by omega) (by omega) p2 p3 p4
theorem repl_small {fs : List NodeD} {l : List EvD} : smallNs (replB fs l).2.2 := by
  unfold replB
  by_cases h : (treeB fs && notesB l) = true
  · rw [if_pos h]
    rw [Bool.and_eq_true] at h
    exact rep_tsmall h.1 h.2
  · rw [if_neg h]
    exact ⟨by simp, fun d hd => by cases hd⟩
def depthM (b : Nat) (w : World) : Nat := match w.cell? ⟨b, 0, none⟩ with
  | some (.int _ z) => z.toNat
  | _ => 0
theorem depthM_of {b : Nat} {w : World} {d : Int} (h : w.cell? ⟨b, 0, none⟩ = some (.int .i64 d)) : depthM b w = d.toNat := by
  unfold depthM
  rw [h]

set_option maxRecDepth 100000 in
set_option maxHeartbeats 40000000 in
theorem fnTa_walk (A : Option Addr) (n c : Nat) (w : World) (htab : tabT w) (h : BytesR w w.heap.size A n) (hn : n ≤ 9223372036854775807) :
    Calls Tryz.prog 8 #[.slice A n c] w fun e w' => e = .returned (.bool true) ∧ Below w.heap.size w w' := by
  have HK1 := Lib.hid (c2Big2_any A n c none 0 0 w hn (by omega))
  by_cases hbig : (decide (1048576 < n) || decide (1048576 < 0)) = true
  · rw [hbig] at HK1
    clear h htab
    go_enter Tryz.func8, Tryz.ntmps8
    go_wp2_with fail
    refine HK1.out.mono ?_
    rintro e w1 ⟨rfl, rfl⟩
    go_wp2_with fail
    go_ret
    exact ⟨rfl, Below.refl _ _⟩
  rw [Bool.not_eq_true] at hbig
  rw [hbig] at HK1
  have hn6 : n ≤ 1048576 := by simp at hbig; omega
  have HK2 := Lib.hid (DrawViewOf_any A n c w h hn6)
  have HTB := Lib.hid htab
  clear h htab hbig
  go_enter Tryz.func8, Tryz.ntmps8
  go_wp2_with fail
  refine HK1.out.mono ?_
  rintro e w1 ⟨rfl, rfl⟩
  go_wp2_with fail
  refine HK2.out.mono ?_
  rintro e w1 ⟨tv, fs, ev, x, rfl, hT, htr, hfi, hev, hy, hb1⟩
  obtain ⟨dp, rs, l⟩ := x
  dsimp only at hev hy ⊢
  obtain ⟨A1, cap1, rfl, hcap1, hN⟩ := hT.reads
  obtain ⟨EA, ec, rfl, hec, hE⟩ := hev.reads
  obtain ⟨hy1, hy2, hy3, hy4, hy5, hy6⟩ := hy
  dsimp only at hy1 hy2 hy3 hy4 hy5 hy6
  have hok : okEs l := ⟨by omega, fun d hd => (hy6 d hd).1.1⟩
  have hce : cleanEs l := fun d hd => (hy6 d hd).1.2
  have hts := tree_small htr
  have hcl := fine_clean hfi
  have hsl : smallEs l := ⟨hok.1, fun e he => (hok.2 e he).1⟩
  obtain ⟨WX, hWX⟩ : ∃ WX, WX = (w1.alloc (.cells #[.slice A1 fs.length cap1] 26)).alloc (.cells #[.int .i64 dp, .int .i64 rs, .slice EA l.length ec] 58) := ⟨_, rfl⟩
  have HBX : Hid (Below w1.heap.size w1 WX) := by subst hWX; exact (Below.new _ _).later (Below.new _ _)
  have HX0 : Hid (Blk WX w1.heap.size 26 #[.slice A1 fs.length cap1]) := by subst hWX; exact heap_two0 _ _ _
  have HX1 : Hid (Blk WX (w1.heap.size + 1) 58 #[.int .i64 dp, .int .i64 rs, .slice EA l.length ec]) := by subst hWX; exact heap_two1 _ _ _
  have HS1 : Hid (∀ W', Below WX.heap.size WX W' → (W'.cell? ⟨w1.heap.size, 0, none⟩ = some (.slice A1 fs.length cap1) ∧ W'.cell? ⟨w1.heap.size + 1, 0, none⟩ = some (.int .i64 dp) ∧ W'.cell? ⟨w1.heap.size + 1, 1, none⟩ = some (.int .i64 rs) ∧ W'.cell? ⟨w1.heap.size + 1, 2, none⟩ = some (.slice EA l.length ec))) := fun W' hW => ⟨(HX0.out.later hW HX0.out.lt).at 0 rfl, (HX1.out.later hW HX1.out.lt).at 0 rfl, (HX1.out.later hW HX1.out.lt).at 1 rfl, (HX1.out.later hW HX1.out.lt).at 2 rfl⟩
  have HNX : Hid (∀ W, Below WX.heap.size WX W → Nodes W W.heap.size A1 fs.length fs) := fun W hW => hN.later (HBX.out.later hW)
  have HLX : Hid (∀ W, Below WX.heap.size WX W → Evs W W.heap.size EA l.length l) := fun W hW => hE.later (HBX.out.later hW)
  have HBW : Hid (Below w.heap.size w WX) := hb1.later HBX.out
  have HTT : Hid (∀ W, Below WX.heap.size WX W → tabT W) := fun W hW => tab_later HTB.out (HBW.out.later hW)
  have HKO := Lib.hid (fun W (hW : Below WX.heap.size WX W) => specTransOk_any dp rs EA l.length ec l W (HLX.out W hW) hok)
  have HKM := Lib.hid (fun d A1' (A2 : Option Addr) c1 c2 W (hT : tabT W) (hN' : Nodes W W.heap.size A1' fs.length fs) (hE' : Evs W W.heap.size A2 l.length l) => CommitTrans_any A1' fs.length c1 fs d rs A2 l.length c2 l W hT hN' hts hcl hE' hok hce)
  have HKR := Lib.hid (fun W (hW : Below WX.heap.size WX W) => specReplay_any A1 fs.length cap1 EA l.length ec fs l W (HNX.out W hW) hcap1 hts hcl (HLX.out W hW) hok hce)
  have HKV := Lib.hid (fun W (hW : Below WX.heap.size WX W) => ViewOfI_any A1 fs.length cap1 fs dp rs EA l.length ec l W (HTT.out W hW) (HNX.out W hW) hts (HLX.out W hW) hok)
  have HKD := Lib.hid (fun (AC : Option Addr) cc W (hN' : Nodes W W.heap.size A1 fs.length fs) (hC : Chgs W W.heap.size AC (chgsOf l).length (chgsOf l)) => DoChanges_any A1 fs.length cap1 AC (chgsOf l).length cc fs (chgsOf l) W hN' hts hC (Nat.le_trans (chgsOf_len l) hok.1) (chgsOf_small hsl.2))
  have HTO : Hid (NodesO WX w.heap.size (.slice A1 fs.length cap1) fs) := hT.later HBX.out
  have HEO : Hid (EvsO WX w.heap.size (.slice EA l.length ec) l) := hev.later HBX.out
  have HTS := Lib.hid hts
  have HTR := Lib.hid htr
  have hw1 := hb1.size
  clear hN hE hev hT hb1 hok hce htr hfi hcl hy1 hy2 hy3 hy4 hy5 hy6 hts hsl
  obtain ⟨z0, z1, z2, z3⟩ := HS1.out _ (Below.refl _ _)
  go_wp2_with fail
  rw [← hWX]
  clear hWX
  refine (HKO.out _ (Below.refl _ _)).mono ?_
  rintro e w2 ⟨rfl, hb2⟩
  have HB2 := Lib.hid hb2
  clear hb2 z0 z1 z2 z3 HKO
  by_cases hxf : transB ⟨dp, rs, l⟩ = false
  case pos =>
    obtain ⟨code, hcb, hcn⟩ := commit_bad (fs := fs) (.inl hxf)
    have HKC := Lib.hid (HKM.out dp A1 EA cap1 ec w2 (HTT.out _ HB2.out) (HNX.out _ HB2.out) (HLX.out _ HB2.out))
    rw [hcb] at HKC
    rw [hxf]
    clear HKM HKR HKV HKD hcb hxf
    have hcb0 : (code != (0 : Int)) = true := by simpa using hcn
    clear hcn
    obtain ⟨z0, z1, z2, z3⟩ := HS1.out _ HB2.out
    go_wp2_with fail
    refine HKC.out.mono ?_
    rintro e w3 ⟨v3, tv3, cv3, rfl, hv3, ht3, hc3, hb3⟩
    obtain ⟨AV, cv, rfl, _, _⟩ := hv3.reads
    obtain ⟨AT, ct, rfl, _, _⟩ := ht3.reads
    obtain ⟨AC, cc, rfl, _, _⟩ := hc3.reads
    have HB3 := Lib.hid (HB2.out.later hb3)
    clear hv3 ht3 hc3 hb3 z0 z1 z2 z3
    go_wp2_with fail
    go_ret
    exact ⟨ret_bool (by first | exact hcb0 | simp [hcb0]), (HBW.out.later HB3.out).later ((Below.new _ _).later (Below.new _ _))⟩
  by_cases hd0 : dp = 0
  case pos =>
    obtain ⟨code, hcb, hcn⟩ := commit_bad (fs := fs) (d := dp) (r := rs) (l := l) (.inr hd0)
    have HKC := Lib.hid (HKM.out dp A1 EA cap1 ec w2 (HTT.out _ HB2.out) (HNX.out _ HB2.out) (HLX.out _ HB2.out))
    rw [hcb] at HKC
    clear HKM HKR HKV HKD hcb
    rw [Bool.not_eq_false] at hxf
    rw [hxf]
    clear hxf
    subst hd0
    have hcb0 : (code != (0 : Int)) = true := by simpa using hcn
    clear hcn
    obtain ⟨z0, z1, z2, z3⟩ := HS1.out _ HB2.out
    go_wp2_with fail
    refine HKC.out.mono ?_
    rintro e w3 ⟨v3, tv3, cv3, rfl, hv3, ht3, hc3, hb3⟩
    obtain ⟨AV, cv, rfl, _, _⟩ := hv3.reads
    obtain ⟨AT, ct, rfl, _, _⟩ := ht3.reads
    obtain ⟨AC, cc, rfl, _, _⟩ := hc3.reads
    have HB3 := Lib.hid (HB2.out.later hb3)
    clear hv3 ht3 hc3 hb3 z0 z1 z2 z3
    go_wp2_with fail
    go_ret
    exact ⟨ret_bool (by first | exact hcb0 | simp [hcb0]), (HBW.out.later HB3.out).later ((Below.new _ _).later (Below.new _ _))⟩
  have hxt : transB ⟨dp, rs, l⟩ = true := by simpa using hxf
  obtain ⟨p0, p1, p2, p3, p4, p5⟩ := trans_parts hxt
  dsimp only at p0 p1 p2 p3 p4 p5
  have hd0b : (dp == (0 : Int)) = false := beq_eq_false_iff_ne.2 hd0
  have HXT := Lib.hid hxt
  have HAI := Lib.hid (fun hx => alone_is (fs := fs) (r := rs) (l := l) HTR.out hx)
  have HVI := Lib.hid (viewOf_is (fs := fs) (x := ⟨dp, rs, l⟩) HTR.out hxt)
  have HDP : Hid (1 ≤ dp ∧ dp ≤ 3) := ⟨by omega, p1⟩
  have HRS := Lib.hid (repl_small (fs := fs) (l := l))
  rw [hxt]
  clear hxf hxt p0 p1 p2 p3 p4 p5
  obtain ⟨z0, z1, z2, z3⟩ := HS1.out _ HB2.out
  go_wp2_with fail
  refine (HKR.out _ HB2.out).mono ?_
  rintro e w3 ⟨v3, rfl, hv3, hb3⟩
  obtain ⟨A9, c9, rfl, _, _⟩ := hv3.reads
  have HB3 := Lib.hid (HB2.out.later hb3)
  generalize replB fs l = RB at *
  obtain ⟨rc, rat, gs⟩ := RB
  dsimp only at HAI HRS ⊢
  obtain ⟨W9, hW9⟩ : ∃ W9, W9 = w3.alloc (.cells #[.slice A9 gs.length c9] 26) := ⟨_, rfl⟩
  have HB9 : Hid (Below WX.heap.size WX W9) := by subst hW9; exact HB3.out.later (Below.new _ _)
  clear hv3 hb3 z0 z1 z2 z3 HKR
  obtain ⟨z0, z1, z2, z3⟩ := HS1.out _ HB3.out
  have hz1 : w1.heap.size + 1 < w3.heap.size := Nat.lt_of_lt_of_le HX1.out.lt HB3.out.size
  have hz0 : w1.heap.size < w3.heap.size := by omega
  go_wp2_with fail
  rw [← hW9]
  clear hW9 z0 z1 z2 z3 hz0 hz1
  refine (HKV.out _ HB9.out).mono ?_
  rintro e w4 ⟨v4, rfl, hv4, hb4⟩
  rw [HVI.out] at hv4 ⊢
  generalize viewB fs l = VB at *
  obtain ⟨vc, vs⟩ := VB
  dsimp only at hv4 HAI ⊢
  obtain ⟨A12, c12, rfl, hc12, hN12⟩ := hv4.reads
  have HB4 := Lib.hid (HB9.out.later hb4)
  have hb9s := HB9.out.size
  have hbws := HBW.out.size
  obtain ⟨WL, hWL⟩ : ∃ WL, WL = w4.alloc (.cells #[.slice A12 vs.length c12] 26) := ⟨_, rfl⟩
  have HBL : Hid (Below WX.heap.size WX WL) := by subst hWL; exact HB4.out.later (Below.new _ _)
  have HQ12 : Hid (Blk WL w4.heap.size 26 #[.slice A12 vs.length c12]) := by subst hWL; exact heap_alloc_new _ _
  have HN12 : Hid (NodesW WL w.heap.size (.slice A12 vs.length c12) vs) := by subst hWL; exact (hv4.base (show w.heap.size ≤ W9.heap.size by omega)).later (Below.new _ _)
  have hq12 : w1.heap.size + 1 < w4.heap.size := Nat.lt_of_lt_of_le HX1.out.lt HB4.out.size
  have hxl : w1.heap.size + 1 < WX.heap.size := HX1.out.lt
  clear hv4 hb4 HKV hN12 HVI hb9s
  have HLT := Lib.hid (HX0.out.later HBL.out HX0.out.lt)
  have HLX1 := Lib.hid (HX1.out.later HBL.out HX1.out.lt)
  have HLO := Lib.hid (HTO.out.later HBL.out)
  have HLE := Lib.hid (HEO.out.later HBL.out)
  have HLW := Lib.hid (HBW.out.later HBL.out)
  clear HB3 HB9 HB4 HB2 HNX HLX HTT HS1
  go_wp2_with fail
  rw [← hWL]
  clear hWL
  go_loopw [] (fun wr => ∃ (d : Int) (A2 : Option Addr) (c2 : Nat), Hid (1 ≤ d ∧ d ≤ dp) ∧ Hid (Blk wr w1.heap.size 26 #[.slice A1 fs.length cap1]) ∧ Hid (Blk wr (w1.heap.size + 1) 58 #[.int .i64 d, .int .i64 rs, .slice A2 l.length c2]) ∧ Hid (NodesO wr w.heap.size (.slice A1 fs.length cap1) fs) ∧ Hid (EvsO wr w.heap.size (.slice A2 l.length c2) l) ∧ Hid (Blk wr w4.heap.size 26 #[.slice A12 vs.length c12]) ∧ Hid (NodesW wr w.heap.size (.slice A12 vs.length c12) vs) ∧ Hid (Below w.heap.size w wr)) (fun wr => depthM (w1.heap.size + 1) wr)
  case atStart => exact ⟨dp, EA, ec, ⟨HDP.out.1, Int.le_refl _⟩, HLT.out, HLX1.out, HLO.out, HLE.out, HQ12.out, HN12.out, HLW.out⟩
  case round =>
    obtain ⟨d, A2, c2, HD, HT, HXR, HTN, HEV, HQ, HNV, HBR⟩ := hrel
    obtain ⟨hd1, hd2⟩ := HD.out
    clear HLT HLX1 HLO HLE HQ12 HN12 HLW HTO HEO
    have hN1 : Nodes wr wr.heap.size A1 fs.length fs := by
      obtain ⟨A', c', e, _, h1⟩ := HTN.out.reads
      injection e with e1 e2 e3
      subst e1
      exact h1
    obtain ⟨A', c', e, hec2, hE2⟩ := HEV.out.reads
    injection e with e1 e2 e3
    subst e1 e3
    have HKC := Lib.hid (HKM.out d A1 A2 cap1 c2 wr (tab_later HTB.out HBR.out) hN1 hE2)
    have t0 := HT.out.cell 0
    have x0 := HXR.out.cell 0
    have x1 := HXR.out.cell 1
    have x2 := HXR.out.cell 2
    simp at t0 x0 x1 x2
    have hqz := HQ.out.lt
    have hxz := HXR.out.lt
    have hmea := depthM_of x0
    have HXD := Lib.hid (trans_down HXT.out hd1 hd2)
    clear e2 hE2
    by_cases hlt : 1 < d
    · have hcd := commit_deep (fs := fs) HTR.out HXD.out hlt
      rw [hcd] at HKC
      clear hcd
      go_wp2_with fail
      refine HKC.out.mono ?_
      rintro e w5 ⟨v5, tv5, cv5, rfl, hv5, ht5, hc5, hb5⟩
      dsimp only at hv5 ht5 hc5 ⊢
      obtain ⟨AT, ct, rfl, hct, hNT⟩ := ht5.reads
      obtain ⟨AC, cc, rfl, hcc, _⟩ := hc5.reads
      obtain ⟨AV, cv, rfl, hcv, hEV⟩ := hv5.reads
      dsimp only [List.length_nil] at hcc ⊢
      have HB5 := Lib.hid hb5
      have hw5s := hb5.size
      obtain ⟨WQ, hWQ⟩ : ∃ WQ, WQ = (w5.alloc (.cells #[.int .i64 (d - 1), .int .i64 rs, .slice AV l.length cv] 58)).alloc (.cells #[.slice AT fs.length ct] 26) := ⟨_, rfl⟩
      have HBQ : Hid (Below wr.heap.size wr WQ) := by subst hWQ; exact hb5.later ((Below.new _ _).later (Below.new _ _))
      have HQ0 : Hid (Blk WQ w5.heap.size 58 #[.int .i64 (d - 1), .int .i64 rs, .slice AV l.length cv]) := by subst hWQ; exact heap_two0 _ _ _
      have HQ1 : Hid (Blk WQ (w5.heap.size + 1) 26 #[.slice AT fs.length ct]) := by subst hWQ; exact heap_two1 _ _ _
      have HNQ : Hid (Nodes WQ WQ.heap.size AT fs.length fs) := by subst hWQ; exact hNT.later ((Below.new _ _).later (Below.new _ _))
      have HN1Q : Hid (Nodes WQ WQ.heap.size A1 fs.length fs) := hN1.later HBQ.out
      have HEQ : Hid (EvsO WQ w.heap.size (.slice AV l.length cv) l) := by subst hWQ; exact (hv5.base (show w.heap.size ≤ wr.heap.size from HBR.out.size)).later ((Below.new _ _).later (Below.new _ _))
      have HKT := Lib.hid (specSameTree_any AT A1 fs.length ct fs.length cap1 fs fs WQ HNQ.out HN1Q.out HTS.out HTS.out)
      rw [decide_eq_true rfl] at HKT
      have hb5c : w5.heap.size < WQ.heap.size := HQ0.out.lt
      clear hb5 hv5 ht5 hc5 hNT hEV t0 x0 x1 x2
      have tq := HT.out.later HB5.out HT.out.lt
      have xq := HXR.out.later HB5.out HXR.out.lt
      have t0 := tq.cell 0
      have x0 := xq.cell 0
      have x1 := xq.cell 1
      have x2 := xq.cell 2
      have hzt := tq.lt
      have hzx := xq.lt
      simp at t0 x0 x1 x2
      clear tq xq
      go_wp2_with fail
      try rw [← hWQ]
      clear hWQ t0 x0 x1 x2 hzt hzx
      have tq := HT.out.later HBQ.out HT.out.lt
      have xq := HXR.out.later HBQ.out HXR.out.lt
      have t0 := tq.cell 0
      have x0 := xq.cell 0
      have q0 := HQ0.out.cell 0
      have r0 := HQ1.out.cell 0
      simp at t0 x0 q0 r0
      clear tq xq
      go_wp2_with fail
      refine HKT.out.mono ?_
      rintro e w6 ⟨rfl, hb6⟩
      have HB6 := Lib.hid (HBQ.out.later hb6)
      have tq := HT.out.later HB6.out HT.out.lt
      have xq := HXR.out.later HB6.out HXR.out.lt
      have yq := HQ0.out.later hb6 HQ0.out.lt
      have HTQ := Lib.hid tq
      have HXQ := Lib.hid xq
      have HE6 := Lib.hid (HEQ.out.later hb6)
      clear hb6 t0 x0 q0 r0
      have t0 := tq.cell 0
      have x0 := xq.cell 0
      have x1 := xq.cell 1
      have x2 := xq.cell 2
      have xf0 := xq.frozen 0
      have xf1 := xq.frozen 1
      have xf2 := xq.frozen 2
      have xz := xq.lt
      have y0 := yq.cell 0
      have y1 := yq.cell 1
      have y2 := yq.cell 2
      simp at t0 x0 x1 x2 y0 y1 y2
      have hwk : IntKind.i64.wrap (d - 1) = d - 1 := by rw [IntKind.wrap_i64]; have := HDP.out.2; omega
      have hneq : ((d - 1) != (d - 1)) = false := by simp
      have K1 := Lib.hid (HXQ.out.set_ 0 (.int .i64 (d - 1)))
      have K2 := Lib.hid (K1.out.set_ 1 (.int .i64 rs))
      have K3 := Lib.hid (K2.out.set_ 2 (.slice AV l.length cv))
      have HK8 : Hid (Blk (((w6.setCell ⟨w1.heap.size + 1, 0, none⟩ (.int .i64 (d - 1))).setCell ⟨w1.heap.size + 1, 1, none⟩ (.int .i64 rs)).setCell ⟨w1.heap.size + 1, 2, none⟩ (.slice AV l.length cv)) (w1.heap.size + 1) 58 #[.int .i64 (d - 1), .int .i64 rs, .slice AV l.length cv]) := by unfold Hid; simpa using K3.out
      clear tq xq yq
      go_wp2_with fail
      try rw [hwk]
      go_roundw
      case rel => exact ⟨d - 1, AV, cv, ⟨by omega, by omega⟩, ((HTQ.out.far (p := ⟨w1.heap.size + 1, 0, none⟩) (show w1.heap.size ≠ w1.heap.size + 1 by omega) _).far (p := ⟨w1.heap.size + 1, 1, none⟩) (show w1.heap.size ≠ w1.heap.size + 1 by omega) _).far (p := ⟨w1.heap.size + 1, 2, none⟩) (show w1.heap.size ≠ w1.heap.size + 1 by omega) _, HK8.out, (((HTN.out.later HB6.out).setBlk HXQ.out (by decide) (by decide)).setBlk K1.out (by decide) (by decide)).setBlk K2.out (by decide) (by decide), ((HE6.out.setBlk HXQ.out (by decide) (by decide)).setBlk K1.out (by decide) (by decide)).setBlk K2.out (by decide) (by decide), (((HQ.out.later HB6.out HQ.out.lt).far (p := ⟨w1.heap.size + 1, 0, none⟩) (show w4.heap.size ≠ w1.heap.size + 1 by omega) _).far (p := ⟨w1.heap.size + 1, 1, none⟩) (show w4.heap.size ≠ w1.heap.size + 1 by omega) _).far (p := ⟨w1.heap.size + 1, 2, none⟩) (show w4.heap.size ≠ w1.heap.size + 1 by omega) _, (((HNV.out.later HB6.out).setBlk HXQ.out (by decide) (by decide)).setBlk K1.out (by decide) (by decide)).setBlk K2.out (by decide) (by decide), (((HBR.out.later HB6.out).setCell (p := ⟨w1.heap.size + 1, 0, none⟩) (show w.heap.size ≤ w1.heap.size + 1 by omega) _).setCell (p := ⟨w1.heap.size + 1, 1, none⟩) (show w.heap.size ≤ w1.heap.size + 1 by omega) _).setCell (p := ⟨w1.heap.size + 1, 2, none⟩) (show w.heap.size ≤ w1.heap.size + 1 by omega) _⟩
      case measure =>
        have h8 := HK8.out.cell 0
        simp only [List.getElem?_toArray, List.getElem?_cons_zero] at h8
        rw [hmea, depthM_of (b := w1.heap.size + 1) (d := d - 1) (by simpa using h8)]
        omega
    · obtain rfl : d = 1 := by omega
      have hAI := HAI.out HXD.out
      clear HAI HXD HKM hlt
      have hdi : ¬ (1 : Int) < (1 : Int) := by omega
      by_cases hr0 : rc = 0
      case neg =>
        rw [hAI.1 hr0] at HKC
        clear hAI
        have hrb : (rc != (0 : Int)) = true := by simpa using hr0
        have hrr : (rc == rc) = true := by simp
        go_wp2_with fail
        refine HKC.out.mono ?_
        rintro e w5 ⟨v5, tv5, cv5, rfl, hv5, ht5, hc5, hb5⟩
        obtain ⟨AT, ct, rfl, _, _⟩ := ht5.reads
        obtain ⟨AC, cc, rfl, _, _⟩ := hc5.reads
        obtain ⟨AV, cv, rfl, _, _⟩ := hv5.reads
        have HB5 := Lib.hid hb5
        clear hb5 hv5 ht5 hc5
        go_wp2_with fail
        go_ret
        exact ⟨ret_bool (by simp), (HBR.out.later HB5.out).later ((Below.new _ _).later (Below.new _ _))⟩
      obtain ⟨hcm, hvw, hdc, htg⟩ := hAI.2 hr0
      rw [hcm] at HKC
      injection hvw with hv0 hv1
      subst hr0 hv0 hv1
      clear hAI hcm
      have hgs := tree_small htg
      go_wp2_with fail
      refine HKC.out.mono ?_
      rintro e w5 ⟨v5, tv5, cv5, rfl, hv5, ht5, hc5, hb5⟩
      dsimp only [zeroT] at hv5 ht5 hc5 ⊢
      obtain ⟨AT, ct, rfl, hct, hNT⟩ := ht5.reads
      obtain ⟨AC, cc, rfl, hcc, hCC⟩ := hc5.reads
      obtain ⟨AV, cv, rfl, hcv, hEV⟩ := hv5.reads
      dsimp only [List.length_nil] at hcv ⊢
      have HB5 := Lib.hid hb5
      obtain ⟨WQ, hWQ⟩ : ∃ WQ, WQ = (w5.alloc (.cells #[.int .i64 0, .int .i64 0, .slice AV 0 cv] 58)).alloc (.cells #[.slice AT vs.length ct] 26) := ⟨_, rfl⟩
      have H5Q : Hid (Below w5.heap.size w5 WQ) := by subst hWQ; exact (Below.new _ _).later (Below.new _ _)
      have HBQ := Lib.hid (hb5.later H5Q.out)
      have HQ0 : Hid (Blk WQ w5.heap.size 58 #[.int .i64 0, .int .i64 0, .slice AV 0 cv]) := by subst hWQ; exact heap_two0 _ _ _
      have HQ1 : Hid (Blk WQ (w5.heap.size + 1) 26 #[.slice AT vs.length ct]) := by subst hWQ; exact heap_two1 _ _ _
      have HNQ : Hid (∀ W, Below WQ.heap.size WQ W → Nodes W W.heap.size AT vs.length vs) := fun W hW => hNT.later (H5Q.out.later hW)
      have HNV' : Hid (∀ W, Below WQ.heap.size WQ W → Nodes W W.heap.size A12 vs.length vs) := fun W hW => by
        obtain ⟨A', c', e, _, h1⟩ := HNV.out.reads
        injection e with e1 e2 e3
        subst e1
        exact h1.later (HBQ.out.later hW)
      have HKD' := Lib.hid (HKD.out AC cc WQ (hN1.later HBQ.out) (hCC.later H5Q.out))
      rw [hdc] at HKD'
      clear hb5 hv5 ht5 hc5 hNT hEV hCC HKD t0 x0 x1 x2
      have tq := HT.out.later HB5.out HT.out.lt
      have t0 := tq.cell 0
      have hzt := tq.lt
      simp at t0
      clear tq
      go_wp2_with fail
      try rw [← hWQ]
      clear hWQ t0 hzt
      have t0 := (HT.out.later HBQ.out HT.out.lt).cell 0
      simp at t0
      go_wp2_with fail
      refine HKD'.out.mono ?_
      rintro e w7 ⟨v7, rfl, hn7, hb7⟩
      dsimp only at hn7 ⊢
      obtain ⟨A7, c7, rfl, hc7, hN7⟩ := hn7.reads
      have HB7 := Lib.hid hb7
      obtain ⟨W8, hW8⟩ : ∃ W8, W8 = w7.alloc (.cells #[.slice A7 vs.length c7] 26) := ⟨_, rfl⟩
      have H8 : Hid (Below WQ.heap.size WQ W8) := by subst hW8; exact hb7.later (Below.new _ _)
      have HQ7 : Hid (Blk W8 w7.heap.size 26 #[.slice A7 vs.length c7]) := by subst hW8; exact heap_alloc_new _ _
      have HN8 : Hid (∀ W, Below W8.heap.size W8 W → Nodes W W.heap.size A7 vs.length vs) := fun W hW => by
        have h1 : Nodes W8 W8.heap.size A7 vs.length vs := by subst hW8; exact hN7.later (Below.new _ _)
        exact h1.later hW
      have HKT1 := Lib.hid (specSameTree_any AT A12 vs.length ct vs.length c12 vs vs W8 (HNQ.out _ H8.out) (HNV'.out _ H8.out) hgs hgs)
      have HKT2 := Lib.hid (fun W (hW : Below W8.heap.size W8 W) => specSameTree_any A7 AT vs.length c7 vs.length ct vs vs W (HN8.out W hW) (HNQ.out _ (H8.out.later hW)) hgs hgs)
      rw [decide_eq_true rfl] at HKT1 HKT2
      have HQ1a := Lib.hid (HQ1.out.later HB7.out HQ1.out.lt)
      have HQa := Lib.hid (HQ.out.later (HBQ.out.later HB7.out) HQ.out.lt)
      have q0 := HQ1a.out.cell 0
      have qz := HQ1a.out.lt
      have r0 := HQa.out.cell 0
      have rz := HQa.out.lt
      simp at q0 r0
      clear hb7 hn7 hN7 HKD' t0
      go_wp2_with fail
      try rw [← hW8]
      clear hW8 q0 r0 qz rz
      refine HKT1.out.mono ?_
      rintro e w9 ⟨rfl, hb9⟩
      have HB9 := Lib.hid (H8.out.later hb9)
      have H89 := Lib.hid hb9
      clear hb9
      have y0 := (HQ0.out.later HB9.out HQ0.out.lt).cell 0
      have y2 := (HQ0.out.later HB9.out HQ0.out.lt).cell 2
      have q0 := (HQ1.out.later HB9.out HQ1.out.lt).cell 0
      have r0 := (HQ7.out.later H89.out HQ7.out.lt).cell 0
      simp at y0 y2 q0 r0
      go_wp2_with fail
      refine (HKT2.out _ H89.out).mono ?_
      rintro e w10 ⟨rfl, hb10⟩
      have HBE := Lib.hid ((HBR.out.later (HBQ.out.later HB9.out)).later hb10)
      clear hb10
      go_wp2_with fail
      go_ret
      exact ⟨rfl, HBE.out⟩
end Go.Proofs.YtgmaamnofhmecaaGreatDoor
