/-
  Drawn trees, transactions and events: DrawNoteEvent. (Printed by gen_ty8.py.)
-/
import Derived.Test.YtgmaamnofhmecaaGreatDoorZ00
import Derived.Test.YtgmaamnofhmecaaGreatDoorZ01
import Derived.Test.YtgmaamnofhmecaaGreatDoorZ02
import Derived.Test.YtgmaamnofhmecaaGreatDoorZ03
import Derived.Test.YtgmaamnofhmecaaGreatDoorZ04
import Derived.Test.YtgmaamnofhmecaaGreatDoorZ05
import Derived.Test.YtgmaamnofhmecaaGreatDoorZ06
import Derived.Test.YtgmaamnofhmecaaGreatDoorZ07
import Derived.Test.YtgmaamnofhmecaaGreatDoorZ08
import Derived.Test.YtgmaamnofhmecaaGreatDoorZ09
import Derived.Test.YtgmaamnofhmecaaGreatDoorZ10
import Derived.Test.YtgmaamnofhmecaaGreatDoorZ11
import Derived.Test.YtgmaamnofhmecaaGreatDoorZ12
import Derived.Test.YtgmaamnofhmecaaGreatDoorZ13
import Derived.Test.YtgmaamnofhmecaaGreatDoorZ14
import Derived.Test.YtgmaamnofhmecaaGreatDoorZ15
import Derived.Test.YtgmaamnofhmecaaGreatDoorZ16
import Derived.Test.YtgmaamnofhmecaaGreatDoorZ17
import Derived.Test.YtgmaamnofhmecaaGreatDoorZ18
import Derived.Test.YtgmaamnofhmecaaGreatDoorZ19
import Derived.Test.YtgmaamnofhmecaaGreatDoorZ20
import Derived.Test.YtgmaamnofhmecaaGreatDoorZ21
import Derived.Test.YtgmaamnofhmecaaGreatDoorZ22
import Derived.Test.YtgmaamnofhmecaaGreatDoorZ23
import Derived.Test.YtgmaamnofhmecaaGreatDoorZ24
import Derived.Test.YtgmaamnofhmecaaGreatDoorZ25
import Derived.Test.YtgmaamnofhmecaaGreatDoorZ26
import Derived.Test.YtgmaamnofhmecaaGreatDoorZ27
import Derived.Test.YtgmaamnofhmecaaGreatDoorZ28
import Derived.Test.YtgmaamnofhmecaaGreatDoorZ29
import Derived.Test.YtgmaamnofhmecaaGreatDoorZ30
import Derived.Test.YtgmaamnofhmecaaGreatDoorZ31
import Derived.Test.YtgmaamnofhmecaaGreatDoorZ32
import Derived.Test.YtgmaamnofhmecaaGreatDoorZ33
import Derived.Test.YtgmaamnofhmecaaGreatDoorZ34
import Derived.Test.YtgmaamnofhmecaaGreatDoorZ35
import Derived.Test.YtgmaamnofhmecaaGreatDoorZ36
import Derived.Test.YtgmaamnofhmecaaGreatDoorZ37
import Derived.Test.YtgmaamnofhmecaaGreatDoorZ38
import Derived.Test.YtgmaamnofhmecaaGreatDoorZ39
import Derived.Test.YtgmaamnofhmecaaGreatDoorZ40
import Derived.Test.YtgmaamnofhmecaaGreatDoorZ41
import Derived.Test.YtgmaamnofhmecaaGreatDoorZ42
import Derived.Test.YtgmaamnofhmecaaGreatDoorZ43
import Derived.Test.YtgmaamnofhmecaaGreatDoorW00
set_option linter.unusedSimpArgs false
namespace Go.Proofs.YtgmaamnofhmecaaGreatDoor
open Go.RowKit
set_option linter.unusedVariables false
set_option linter.unusedSimpArgs false

def DNotePost (w : World) (e : Ending) (w' : World) : Prop := ∃ tv fs v x sv d, e = .returned (.tuple #[.agg #[tv], .agg #[.int .i64 x.depth, .int .i64 x.rest, v], .agg #[.int .i64 d.kind, .string d.name, sv, .string d.val, .int .i64 d.n]]) ∧ NodesO w' w.heap.size tv fs ∧ treeB fs = true ∧ fineT fs ∧ EvsO w' w.heap.size v x.evs ∧ fineY x ∧ Own.SubO w' w.heap.size sv d.subs ∧ okE d ∧ Below w.heap.size w w'
theorem dnote_end {w W Y : World} {B : Nat} {tv v sv : Value} {fs : List NodeD} {x : TransD} {d : EvD} {e : Ending} (hY : Own.Chg (fun g => g = w.heap.size ∨ g = w.heap.size + 1 ∨ g = w.heap.size + 1 + 1) W Y) (hB : w.heap.size + 1 + 1 < B) (he : e = .returned (.tuple #[.agg #[tv], .agg #[.int .i64 x.depth, .int .i64 x.rest, v], .agg #[.int .i64 d.kind, .string d.name, sv, .string d.val, .int .i64 d.n]]))
    (h1 : NodesO W B tv fs) (ht : treeB fs = true ∧ fineT fs) (h3 : EvsO W B v x.evs) (hx : fineY x) (hs : Own.SubO W B sv d.subs) (hd : okE d) (hb : Below w.heap.size w W) : DNotePost w e Y := by
  have hP : ∀ g, (g = w.heap.size ∨ g = w.heap.size + 1 ∨ g = w.heap.size + 1 + 1) → g < B := fun g hg => by omega
  exact ⟨tv, fs, v, x, sv, d, he, (h1.chgLow hY hP).base (by omega), ht.1, ht.2, (h3.chgLow hY hP).base (by omega), hx, Own.own_base (Own.own_chg hs hY (Own.inP_of hs fun g h3 _ hp => by have := hP g hp; omega)) (by omega), hd, Own.Chg.below hb hY (fun g hg => by omega) (Nat.le_refl _)⟩
theorem chgDr {P : Nat → Prop} {a b : World} (h : Own.Chg P a b) : Own.Chg P a b.drew := h.trans (Own.Chg.of_below (Below.refl _ _).drew)
theorem safe_fine {l : List EvD} (h : ∀ d ∈ l, fineE d) : ∀ d ∈ l.filter noteB, fineE d := fun d hd => h d (List.mem_filter.1 hd).1
set_option maxRecDepth 100000 in
set_option maxHeartbeats 40000000 in
theorem DrawNoteEvent_any (A : Option Addr) (n c : Nat) (w : World) (h : BytesR w w.heap.size A n) (hn : n ≤ 1048576) :
    Calls Tryz.prog 37 #[.slice A n c] w (DNotePost w) := by
  obtain ⟨WB, hWB⟩ : ∃ WB, WB = ((w.alloc (.cells #[.slice none 0 0] 26)).alloc (.cells #[.int .i64 0, .int .i64 0, .slice none 0 0] 58)).alloc (.cells #[.int .i64 0, .string ⟨#[]⟩, .slice none 0 0, .string ⟨#[]⟩, .int .i64 0] 55) := ⟨_, rfl⟩
  have HBB : Hid (Below w.heap.size w WB) := by subst hWB; exact below_new3 w _ _ _
  have HR2 : Hid (Blk WB w.heap.size 26 #[.slice none 0 0]) := by subst hWB; exact heap_new0 _ _ _ _
  have HR3 : Hid (Blk WB (w.heap.size + 1) 58 #[.int .i64 0, .int .i64 0, .slice none 0 0]) := by subst hWB; exact heap_new1 _ _ _ _
  have HR4 : Hid (Blk WB (w.heap.size + 1 + 1) 55 #[.int .i64 0, .string ⟨#[]⟩, .slice none 0 0, .string ⟨#[]⟩, .int .i64 0]) := by subst hWB; exact heap_new2 _ _ _ _
  have HK1 := Lib.hid (l00FromS_any A n c WB (BytesR.laterS h HBB.out) hn)
  have hp3 : WB.heap.size = w.heap.size + 1 + 1 + 1 := by subst hWB; simp
  clear h hn
  go_enter Tryz.func37, Tryz.ntmps37
  go_wp2_with fail
  rw [← hWB]
  clear hWB
  refine HK1.out.mono ?_
  rintro e w1 ⟨rfl, hs1, hb1⟩
  rw [hp3] at hs1 hb1 ⊢
  have HB1 := Lib.hid (HBB.out.trans (hb1.mono (by omega)))
  have HA2 := Lib.hid (Blk.later HR2.out (hb1.mono (Nat.le_of_eq hp3)) HR2.out.lt)
  have HA3 := Lib.hid (Blk.later HR3.out (hb1.mono (Nat.le_of_eq hp3)) HR3.out.lt)
  have HA4 := Lib.hid (Blk.later HR4.out (hb1.mono (Nat.le_of_eq hp3)) HR4.out.lt)
  have hw1 : w.heap.size + 1 + 1 + 1 < w1.heap.size := hs1.lt
  generalize hp : w.heap.size + 1 + 1 + 1 = p at *
  have HS1 := Lib.hid hs1
  have HK2 := Lib.hid (l25DrawC_any p 0 w1 hs1 (by omega))
  clear hs1 hb1 HK1 HR2 HR3 HR4 HBB hp3
  have hn01 : ¬ w.heap.size = w.heap.size + 1 := by omega
  have hn10 : ¬ w.heap.size + 1 = w.heap.size := by omega
  have hn02 : ¬ w.heap.size = w.heap.size + 1 + 1 := by omega
  have hn20 : ¬ w.heap.size + 1 + 1 = w.heap.size := by omega
  have hn12 : ¬ w.heap.size + 1 = w.heap.size + 1 + 1 := by omega
  have hn21 : ¬ w.heap.size + 1 + 1 = w.heap.size + 1 := by omega
  go_wp2_with fail
  refine HK2.out.mono ?_
  rintro e w2 ⟨tv, fs, rfl, hT, htr, hfi, hd⟩
  obtain ⟨A1, cap1, rfl, hcap1, hN2⟩ := hT.reads
  have HT2 := Lib.hid hT
  have HD2 := Lib.hid hd
  have HTF := Lib.hid (And.intro htr hfi)
  have HE2 := Lib.hid (Blk.drawn HA2.out hd (by omega))
  have HE3 := Lib.hid (Blk.drawn HA3.out hd (by omega))
  have HE4 := Lib.hid (Blk.drawn HA4.out hd (by omega))
  have hw2 := hd.chg.size
  clear hT htr hfi hd HK2 HA2 HA3 HA4
  obtain ⟨WX, hWX⟩ : ∃ WX, WX = w2.alloc (.cells #[.slice A1 fs.length cap1] 26) := ⟨_, rfl⟩
  have HX : Hid (Blk WX w2.heap.size 26 #[.slice A1 fs.length cap1]) := by subst hWX; exact heap_alloc_new _ _
  have HDX : Hid (Drawn p (0 + 100) w1 WX) := by subst hWX; exact HD2.out.later (Below.new _ _)
  have HTX : Hid (NodesO WX w1.heap.size (.slice A1 fs.length cap1) fs) := by subst hWX; exact HT2.out.later (Below.new _ _)
  have HNX : Hid (Nodes WX WX.heap.size A1 fs.length fs) := by subst hWX; exact hN2.later (Below.new _ _)
  have HX2 : Hid (Blk WX w.heap.size 26 #[.slice none 0 0]) := by subst hWX; exact HE2.out.alloc _
  have HX3 : Hid (Blk WX (w.heap.size + 1) 58 #[.int .i64 0, .int .i64 0, .slice none 0 0]) := by subst hWX; exact HE3.out.alloc _
  have HX4 : Hid (Blk WX (w.heap.size + 1 + 1) 55 #[.int .i64 0, .string ⟨#[]⟩, .slice none 0 0, .string ⟨#[]⟩, .int .i64 0]) := by subst hWX; exact HE4.out.alloc _
  have hwx := HX.out.lt
  have HKB := Lib.hid (fun W (hW : Below WX.heap.size WX W) => l25Bent_any p (0 + 100) A1 fs.length cap1 fs W (HDX.out.src.later hW) (by omega) (HNX.out.later hW) hcap1 HTF.out.1 HTF.out.2)
  have x0 := HX.out.cell 0
  simp at x0
  clear HT2 HD2 HE2 HE3 HE4 hN2
  go_wp2_with fail
  rw [← hWX]
  clear hWX
  refine (HKB.out _ (Below.refl _ _)).mono ?_
  rintro e w3 ⟨v, x, rfl, hev, hx, hd3⟩
  obtain ⟨dp, rs, l⟩ := x
  dsimp only at hev hx ⊢
  obtain ⟨EA, ec, rfl, _, _⟩ := hev.reads
  have HFY := Lib.hid hx
  have HD3 := Lib.hid (HDX.out.trans hd3)
  have H3T := Lib.hid (HTX.out.drawn HDX.out.src hd3)
  have H3E : Hid (EvsO w3 w1.heap.size (.slice EA l.length ec) l) := hev.base (show w1.heap.size ≤ WX.heap.size by omega)
  have H32 := Lib.hid (Blk.drawn HX2.out hd3 (by omega))
  have H33 := Lib.hid (Blk.drawn HX3.out hd3 (by omega))
  have H34 := Lib.hid (Blk.drawn HX4.out hd3 (by omega))
  have H36 := Lib.hid (Blk.drawn HX.out hd3 (by omega))
  have hwd := HD3.out.chg.size
  have hwx3 := hd3.chg.size
  obtain ⟨WY, hWY⟩ : ∃ WY, WY = w3.alloc (.cells #[.int .i64 dp, .int .i64 rs, .slice EA l.length ec] 58) := ⟨_, rfl⟩
  have HYB : Hid (Below w3.heap.size w3 WY) := by subst hWY; exact Below.new _ _
  have HB7 : Hid (Blk WY w3.heap.size 58 #[.int .i64 dp, .int .i64 rs, .slice EA l.length ec]) := by subst hWY; exact heap_alloc_new _ _
  have HDY := Lib.hid (HD3.out.later HYB.out)
  have HTT := Lib.hid (H3T.out.later HYB.out)
  have HTE := Lib.hid (H3E.out.later HYB.out)
  have HB2 := Lib.hid (H32.out.later HYB.out H32.out.lt)
  have HB3 := Lib.hid (H33.out.later HYB.out H33.out.lt)
  have HB4 := Lib.hid (H34.out.later HYB.out H34.out.lt)
  have HB6 := Lib.hid (H36.out.later HYB.out H36.out.lt)
  have hq5 : w2.heap.size < w3.heap.size := H36.out.lt
  have hokl : okEs l := ⟨by have h9 := hx.2.2.2.2.1; dsimp only at h9; omega, fun d hd => (hx.2.2.2.2.2 d hd).1.1⟩
  have hsml : smallEs (l.filter noteB) := ⟨Nat.le_trans (List.length_filter_le _ _) hokl.1, fun d hd => (hokl.2 d (List.mem_filter.1 hd).1).1⟩
  have HEY : Hid (∀ W, Below WY.heap.size WY W → Evs W W.heap.size EA l.length l) := fun W hW => by
    obtain ⟨A', c', e, _, h1⟩ := (HTE.out.later hW).reads
    injection e with e1 e2 e3
    subst e1
    exact h1
  have HNY : Hid (∀ W, Below WY.heap.size WY W → Nodes W W.heap.size A1 fs.length fs) := fun W hW => by
    obtain ⟨A', c', e, _, h1⟩ := (HTT.out.later hW).reads
    injection e with e1 e2 e3
    subst e1
    exact h1
  have HKS := Lib.hid (fun W (hW : Below WY.heap.size WY W) => l25Safe_any EA l.length ec l W (HEY.out W hW) hokl)
  have HKV := Lib.hid (fun (A5 : Option Addr) c5 W (hW : Below WY.heap.size WY W) (hE : Evs W W.heap.size A5 (l.filter noteB).length (l.filter noteB)) => l25View_any A1 fs.length cap1 A5 (l.filter noteB).length c5 fs (l.filter noteB) W (HNY.out W hW) (tree_small HTF.out.1) hE hsml)
  have HVF : Hid (fineT (viewB fs (l.filter noteB)).2) := view_fine HTF.out.2 (safe_fine hx.2.2.2.2.2)
  have HVT : Hid ((viewB fs (l.filter noteB)).1 = 0 → treeB (viewB fs (l.filter noteB)).2 = true) := fun h0 => doChanges_tree h0
  have HYZ : Hid (Blk (WY.alloc (.cells #[.slice none 0 0] 26)) WY.heap.size 26 #[.slice none 0 0]) := heap_alloc_new _ _
  have hw3y : w3.heap.size < WY.heap.size := HB7.out.lt
  have hpy : p < WY.heap.size := HDY.out.lt
  have HSC : Hid (∀ W', Below WY.heap.size WY W' → (W'.cell? ⟨w2.heap.size, 0, none⟩ = some (.slice A1 fs.length cap1) ∧ W'.cell? ⟨w3.heap.size, 2, none⟩ = some (.slice EA l.length ec))) := fun W' hW => ⟨(HB6.out.later hW HB6.out.lt).at 0 rfl, (HB7.out.later hW HB7.out.lt).at 2 rfl⟩
  clear hev hx hd3 H3T H3E H32 H33 H34 H36 HD3 HKB HDX HTX HNX HX2 HX3 HX4 HX x0 hokl hsml
  obtain ⟨s0, s1⟩ := HSC.out _ (Below.refl _ _)
  go_upto_region 4 with fail
  rw [← hWY]
  clear hWY
  go_cut [8, 9] (fun yv cv wx => ∃ (q8 : Nat) (A8 : Option Addr) (c8 : Nat), yv = .pointer (some ⟨q8, 0, none⟩) ∧ cv = .int .i64 (viewB fs (l.filter noteB)).1 ∧ Hid (Below WY.heap.size WY wx) ∧ Hid (Blk wx q8 26 #[.slice A8 (viewB fs (l.filter noteB)).2.length c8]) ∧ Hid (NodesO wx w1.heap.size (.slice A8 (viewB fs (l.filter noteB)).2.length c8) (viewB fs (l.filter noteB)).2) ∧ Hid (WY.heap.size ≤ q8))
  case first =>
    clear s0 s1
    go_region_held3 (fun W' => W'.cell? ⟨w2.heap.size, 0, none⟩ = some (.slice A1 fs.length cap1) ∧ W'.cell? ⟨w3.heap.size, 2, none⟩ = some (.slice EA l.length ec))
      (first | exact HSC.out _ (Below.refl _ _).drew | exact HSC.out _ (Below.new _ _).drew | exact HSC.out _ (Below.new _ _) | exact HSC.out _ HB5.out | exact HSC.out _ (HB5.out.later (Below.new _ _)) | exact HSC.out _ HB6.out | exact HSC.out _ (HB6.out.later (Below.new _ _)) | exact HSC.out _ (HB6.out.setCell (Nat.le_refl _) _) | exact HSC.out _ (HB6.out.setCell (by omega) _))
      (first
        | (go_at_call 98
           refine (HKS.out WY.drew (Below.refl _ _).drew).mono ?_
           rintro e w5 ⟨A5, c5, rfl, hc5, he5, hb5'⟩
           have hb5 := Below.later (Below.refl _ WY) (undrew hb5')
           have hwyr : WY.heap.size = WY.heap.size := rfl
           have HB5 := Lib.hid hb5
           have HE5 := Lib.hid he5
           have hw5 := hb5.size
           clear he5 hb5 hb5')
        | (go_at_call 98
           refine (HKS.out (WY.alloc (.cells #[.slice none 0 0] 26)).drew (Below.new _ _).drew).mono ?_
           rintro e w5 ⟨A5, c5, rfl, hc5, he5, hb5'⟩
           have hb5 := Below.later (Below.new WY (.cells #[.slice none 0 0] 26)) (undrew hb5')
           have HQ5 := Lib.hid (Blk.later HYZ.out (undrew hb5') HYZ.out.lt)
           have HB5 := Lib.hid hb5
           have HE5 := Lib.hid he5
           have hw5 := hb5.size
           clear he5 hb5 hb5')
        | (go_at_call 97
           refine (HKV.out A5 c5 w5 (HB5.out.later (Below.refl _ _)) (HE5.out.later (Below.refl _ _))).mono ?_
           rintro e w6 ⟨tv6, rfl, hn6, hb6⟩
           obtain ⟨A6, c6, rfl, hc6, _⟩ := hn6.reads
           have HB6 := Lib.hid ((HB5.out.later (Below.refl _ _)).later hb6)
           have HN6 := Lib.hid (hn6.base (show w1.heap.size ≤ w5.heap.size by first | omega | (simp; omega)))
           (try (have HQ6 := Lib.hid (HQ5.out.later hb6 HQ5.out.lt); have u0 := HQ6.out.cell 0; have g0 := HQ6.out.frozen 0; have gz := HQ6.out.lt; simp at u0))
           clear hn6 hb6)
        | (go_at_call 97
           refine (HKV.out A5 c5 (w5.alloc (.cells #[.slice none 0 0] 26)) (HB5.out.later (Below.new _ (.cells #[.slice none 0 0] 26))) (HE5.out.later (Below.new _ (.cells #[.slice none 0 0] 26)))).mono ?_
           rintro e w6 ⟨tv6, rfl, hn6, hb6⟩
           obtain ⟨A6, c6, rfl, hc6, _⟩ := hn6.reads
           have HB6 := Lib.hid ((HB5.out.later (Below.new _ (.cells #[.slice none 0 0] 26))).later hb6)
           have HN6 := Lib.hid (hn6.base (show w1.heap.size ≤ (w5.alloc (.cells #[.slice none 0 0] 26)).heap.size by first | omega | (simp; omega)))
           (try (have HQ6 := Lib.hid (Blk.later (heap_alloc_new w5 (.cells #[.slice none 0 0] 26)) hb6 (by simp)); have u0 := HQ6.out.cell 0; have g0 := HQ6.out.frozen 0; have gz := HQ6.out.lt; simp at u0))
           clear hn6 hb6))
    all_goals
      have hg7 := HB6.out.size
      go_wp2_with fail
      go_meet
    all_goals
      first
        | exact ⟨w6.heap.size, _, _, rfl, rfl, HB6.out.later (Below.new _ _), heap_last rfl, HN6.out.later (Below.new _ _), hg7⟩
        | exact ⟨_, _, _, rfl, rfl, HB6.out.setCell (by first | (simp; done) | (simp; omega)) _, (by unfold Hid; have h := HQ6.out.set_ 0 (.slice A6 (viewB fs (l.filter noteB)).2.length c6); simpa using h), HN6.out.setBlk HQ6.out (by decide) (by decide), (by unfold Hid; omega)⟩
  case rest =>
    obtain ⟨q8, A8, c8, rfl, rfl, HBC, HB8, HN8, hq8⟩ := hcut
    clear s0 s1
    have hq8' := hq8.out
    have HDc := Lib.hid (HDY.out.later HBC.out)
    have HB2c := Lib.hid (HB2.out.later HBC.out HB2.out.lt)
    have HB3c := Lib.hid (HB3.out.later HBC.out HB3.out.lt)
    have HB4c := Lib.hid (HB4.out.later HBC.out HB4.out.lt)
    have HB6c := Lib.hid (HB6.out.later HBC.out HB6.out.lt)
    have HB7c := Lib.hid (HB7.out.later HBC.out HB7.out.lt)
    have HTTc := Lib.hid (HTT.out.later HBC.out)
    have HTEc := Lib.hid (HTE.out.later HBC.out)
    have HB8c := HB8
    generalize viewB fs (l.filter noteB) = VB at *
    obtain ⟨vc, vs⟩ := VB
    dsimp only at HVF HVT HB8 HN8 HB8c ⊢
    have hwcs := HBC.out.size
    have x6 := HB6c.out.cell 0
    have z8 := HB8c.out.frozen 0
    have zz := HB8c.out.lt
    have zc := HB8c.out.cell 0
    simp at x6 zc
    by_cases hvc : vc = 0
    case neg =>
      have hvb : (vc != (0 : Int)) = true := by simpa using hvc
      go_upto_region 7 with fail
      obtain ⟨WG, hWG⟩ : ∃ WG, WG = wc.setCell ⟨q8, 0, none⟩ (.slice A1 fs.length cap1) := ⟨_, rfl⟩
      rw [← hWG]
      have HWG : Hid (Drawn p (0 + 100 + 220) WY WG) := by subst hWG; exact ((Drawn.refl HDY.out.src).later HBC.out).set hq8' hpy 0 _
      have HB8s : Hid (Blk WG q8 26 #[.slice A1 fs.length cap1]) := by subst hWG; have h := HB8c.out.set_ 0 (.slice A1 fs.length cap1); unfold Hid; simpa using h
      have HB2s := Lib.hid (Blk.drawn HB2.out HWG.out (by omega))
      have HB3s := Lib.hid (Blk.drawn HB3.out HWG.out (by omega))
      have HB4s := Lib.hid (Blk.drawn HB4.out HWG.out (by omega))
      have HB6s := Lib.hid (Blk.drawn HB6.out HWG.out (by omega))
      have HB7s := Lib.hid (Blk.drawn HB7.out HWG.out (by omega))
      have HTTs := Lib.hid (HTT.out.drawn HDY.out.src HWG.out)
      have HTEs := Lib.hid (HTE.out.drawn HDY.out.src HWG.out)
      have HDs := Lib.hid (HDY.out.trans HWG.out)
      have HNs : Hid (Nodes WG WG.heap.size A1 fs.length fs) := by
        obtain ⟨A', c', e, _, h1⟩ := HTTs.out.reads
        injection e with e1 e2 e3
        subst e1
        exact h1
      have HGG := HTF
      clear hWG x6 z8 zz zc
      have HKN := Lib.hid (l25Note_any p (0 + 100 + 220) A1 fs.length cap1 fs WG HDs.out.src (by omega) HNs.out HGG.out.1 HGG.out.2)
      have q8c := HB8s.out.cell 0
      simp at q8c
      go_wp2_with fail
      refine HKN.out.mono ?_
      rintro e w6 ⟨sv, d, rfl, hsub, hgd, _, hd6⟩
      obtain ⟨SA, sc, rfl, _, _⟩ := Own.SubO.strs hsub
      have HD6 := Lib.hid (HDs.out.trans hd6)
      have HB2g := Lib.hid (Blk.drawn HB2s.out hd6 (by omega))
      have HB3g := Lib.hid (Blk.drawn HB3s.out hd6 (by omega))
      have HB4g := Lib.hid (Blk.drawn HB4s.out hd6 (by omega))
      have HB6g := Lib.hid (Blk.drawn HB6s.out hd6 (by omega))
      have HB7g := Lib.hid (Blk.drawn HB7s.out hd6 (by omega))
      have HTTg := Lib.hid (HTTs.out.drawn HDs.out.src hd6)
      have HTEg := Lib.hid (HTEs.out.drawn HDs.out.src hd6)
      have HSUg : Hid (Own.SubO w6 w1.heap.size (.slice SA d.subs.length sc) d.subs) := Own.own_base hsub HDs.out.chg.size
      have HOKa := Lib.hid hgd.1
      have hw6 := HD6.out.chg.size
      have hp6 := HD6.out.lt
      clear hsub hgd hd6 HKN q8c
      obtain ⟨WE, hWE⟩ : ∃ WE, WE = w6.alloc (.cells #[.int .i64 d.kind, .string d.name, .slice SA d.subs.length sc, .string d.val, .int .i64 d.n] 55) := ⟨_, rfl⟩
      have HWE : Hid (Below w6.heap.size w6 WE) := by subst hWE; exact Below.new _ _
      have HBEe : Hid (Blk WE w6.heap.size 55 #[.int .i64 d.kind, .string d.name, .slice SA d.subs.length sc, .string d.val, .int .i64 d.n]) := by subst hWE; exact heap_alloc_new _ _
      have HDE := Lib.hid (HD6.out.later HWE.out)
      have HKO := Lib.hid (one_any p (0 + 100 + 220 + 16) 8 WE HDE.out.src (by omega) (by omega))
      have hz6 : w3.heap.size < w6.heap.size := HB7g.out.lt
      go_wp2_with fail
      rw [← hWE]
      clear hWE
      refine HKO.out.mono ?_
      rintro e w7 ⟨b8, rfl, hd7⟩
      have HD7 := Lib.hid (HDE.out.trans hd7)
      have HDx := Lib.hid (hd7.pre HWE.out)
      have HBEa := Lib.hid (Blk.drawn HBEe.out hd7 (by omega))
      clear hd7 HKO
      cases b8
      case false =>
        have HB2a := Lib.hid (Blk.drawn HB2g.out HDx.out (by omega))
        have HB3a := Lib.hid (Blk.drawn HB3g.out HDx.out (by omega))
        have HB4a := Lib.hid (Blk.drawn HB4g.out HDx.out (by omega))
        have HB6a := Lib.hid (Blk.drawn HB6g.out HDx.out (by omega))
        have HB7a := Lib.hid (Blk.drawn HB7g.out HDx.out (by omega))
        have HTTa := Lib.hid (HTTg.out.drawn HD6.out.src HDx.out)
        have HTEa := Lib.hid (HTEg.out.drawn HD6.out.src HDx.out)
        have HSUa : Hid (Own.SubO w7 w1.heap.size (.slice SA d.subs.length sc) d.subs) := SubO.drawn HSUg.out HD6.out.src HDx.out
        have HBLa := Lib.hid (Own.Chg.below HB1.out HD7.out.chg (fun g e => by rw [e, ← hp]; omega) (Nat.le_refl _))
        have r2 := HB2a.out.cell 0
        have r3 := HB3a.out.cell 0
        have r4 := HB3a.out.cell 1
        have r5 := HB3a.out.cell 2
        have e0 := HB4a.out.cell 0
        have e1 := HB4a.out.cell 1
        have e2 := HB4a.out.cell 2
        have e3 := HB4a.out.cell 3
        have e4 := HB4a.out.cell 4
        have fr2 := HB2a.out.frozen 0
        have fr3 := HB3a.out.frozen 0
        have fr4 := HB3a.out.frozen 1
        have fr5 := HB3a.out.frozen 2
        have fe0 := HB4a.out.frozen 0
        have fe1 := HB4a.out.frozen 1
        have fe2 := HB4a.out.frozen 2
        have fe3 := HB4a.out.frozen 3
        have fe4 := HB4a.out.frozen 4
        have l2 := HB2a.out.lt
        have l3 := HB3a.out.lt
        have l4 := HB4a.out.lt
        have x0 := HB6a.out.cell 0
        have y0 := HB7a.out.cell 0
        have y1 := HB7a.out.cell 1
        have y2 := HB7a.out.cell 2
        have v0 := HBEa.out.cell 0
        have v1 := HBEa.out.cell 1
        have v2 := HBEa.out.cell 2
        have v3 := HBEa.out.cell 3
        have v4 := HBEa.out.cell 4
        simp at r2 r3 r4 r5 e0 e1 e2 e3 e4 x0 y0 y1 y2 v0 v1 v2 v3 v4
        have hq00 : ¬ w.heap.size = w2.heap.size := by omega
        have hr00 : ¬ w2.heap.size = w.heap.size := by omega
        have hq01 : ¬ w.heap.size = w3.heap.size := by omega
        have hr01 : ¬ w3.heap.size = w.heap.size := by omega
        have hq02 : ¬ w.heap.size = w6.heap.size := by omega
        have hr02 : ¬ w6.heap.size = w.heap.size := by omega
        have hq10 : ¬ w.heap.size + 1 = w2.heap.size := by omega
        have hr10 : ¬ w2.heap.size = w.heap.size + 1 := by omega
        have hq11 : ¬ w.heap.size + 1 = w3.heap.size := by omega
        have hr11 : ¬ w3.heap.size = w.heap.size + 1 := by omega
        have hq12 : ¬ w.heap.size + 1 = w6.heap.size := by omega
        have hr12 : ¬ w6.heap.size = w.heap.size + 1 := by omega
        have hq20 : ¬ w.heap.size + 1 + 1 = w2.heap.size := by omega
        have hr20 : ¬ w2.heap.size = w.heap.size + 1 + 1 := by omega
        have hq21 : ¬ w.heap.size + 1 + 1 = w3.heap.size := by omega
        have hr21 : ¬ w3.heap.size = w.heap.size + 1 + 1 := by omega
        have hq22 : ¬ w.heap.size + 1 + 1 = w6.heap.size := by omega
        have hr22 : ¬ w6.heap.size = w.heap.size + 1 + 1 := by omega
        have HSX : Hid (∀ W', Own.Chg (fun g => g = w.heap.size ∨ g = w.heap.size + 1 ∨ g = w.heap.size + 1 + 1) w7 W' → W'.cell? ⟨w2.heap.size, 0, none⟩ = some (.slice A1 fs.length cap1) ∧ W'.cell? ⟨w3.heap.size, 0, none⟩ = some (.int .i64 dp) ∧ W'.cell? ⟨w3.heap.size, 1, none⟩ = some (.int .i64 rs) ∧ W'.cell? ⟨w3.heap.size, 2, none⟩ = some (.slice EA l.length ec) ∧ W'.cell? ⟨w6.heap.size, 0, none⟩ = some (.int .i64 d.kind) ∧ W'.cell? ⟨w6.heap.size, 1, none⟩ = some (.string d.name) ∧ W'.cell? ⟨w6.heap.size, 2, none⟩ = some (.slice SA d.subs.length sc) ∧ W'.cell? ⟨w6.heap.size, 3, none⟩ = some (.string d.val) ∧ W'.cell? ⟨w6.heap.size, 4, none⟩ = some (.int .i64 d.n)) := fun W' hW => by
          have h6 := Own.Blk.chg HB6a.out hW (by omega)
          have h7 := Own.Blk.chg HB7a.out hW (by omega)
          have hE := Own.Blk.chg HBEa.out hW (by omega)
          exact ⟨h6.at 0 rfl, h7.at 0 rfl, h7.at 1 rfl, h7.at 2 rfl, hE.at 0 rfl, hE.at 1 rfl, hE.at 2 rfl, hE.at 3 rfl, hE.at 4 rfl⟩
        go_wp2_with fail
        go_region_held3 (fun W' => W'.cell? ⟨w2.heap.size, 0, none⟩ = some (.slice A1 fs.length cap1) ∧ W'.cell? ⟨w3.heap.size, 0, none⟩ = some (.int .i64 dp) ∧ W'.cell? ⟨w3.heap.size, 1, none⟩ = some (.int .i64 rs) ∧ W'.cell? ⟨w3.heap.size, 2, none⟩ = some (.slice EA l.length ec) ∧ W'.cell? ⟨w6.heap.size, 0, none⟩ = some (.int .i64 d.kind) ∧ W'.cell? ⟨w6.heap.size, 1, none⟩ = some (.string d.name) ∧ W'.cell? ⟨w6.heap.size, 2, none⟩ = some (.slice SA d.subs.length sc) ∧ W'.cell? ⟨w6.heap.size, 3, none⟩ = some (.string d.val) ∧ W'.cell? ⟨w6.heap.size, 4, none⟩ = some (.int .i64 d.n))
          (first | (refine HSX.out _ ?_; (repeat (first | with_reducible exact Own.Chg.refl _ _ | with_reducible refine chgA ?_ _ | with_reducible refine chgDr ?_ | with_reducible refine chgS ?_ (.inl rfl) | with_reducible refine chgS ?_ (.inr (.inl rfl)) | with_reducible refine chgS ?_ (.inr (.inr rfl)))); done))
          (fail)
        all_goals go_wp2_with fail
        all_goals
          refine bodyPost_ret (v := .tuple #[.agg #[.slice A1 fs.length cap1], .agg #[.int .i64 dp, .int .i64 rs, .slice EA l.length ec], .agg #[.int .i64 d.kind, .string d.name, .slice SA d.subs.length sc, .string d.val, .int .i64 d.n]]) (by simp [results, Tryz.results37, go_sem, r2, r3, r4, r5, e0, e1, e2, e3, e4, hn01, hn10, hn02, hn20, hn12, hn21]) rfl ?_
          exact dnote_end (w := w) (W := w7) (B := w1.heap.size) (x := ⟨dp, rs, l⟩) (d := d) (fs := fs) (by repeat' first | with_reducible exact Own.Chg.refl _ _ | with_reducible refine chgDr ?_ | with_reducible refine chgA ?_ _ | with_reducible refine chgS ?_ (.inl rfl) | with_reducible refine chgS ?_ (.inr (.inl rfl)) | with_reducible refine chgS ?_ (.inr (.inr rfl))) (by omega) rfl HTTa.out HTF.out HTEa.out HFY.out HSUa.out HOKa.out HBLa.out
      have HKA := Lib.hid (l25AnyEvent_any p (0 + 100 + 220 + 16 + 2) w7 HD7.out.src (by omega))
      go_wp2_with fail
      refine HKA.out.mono ?_
      rintro e w8 ⟨sv, d', rfl, hsub, hok, hd8⟩
      obtain ⟨SA', sc', rfl, _, _⟩ := Own.SubO.strs hsub
      have HD8 := Lib.hid (HD7.out.trans hd8)
      have HDy := Lib.hid (HDx.out.trans hd8)
      have HSU8 : Hid (Own.SubO w8 w1.heap.size (.slice SA' d'.subs.length sc') d'.subs) := Own.own_base hsub HD7.out.chg.size
      have HBE8 := Lib.hid (Blk.drawn HBEa.out hd8 (by omega))
      have HOKk := Lib.hid hok
      clear hsub hok hd8 HKA
      have b0 := HBE8.out.cell 0
      have b1 := HBE8.out.cell 1
      have b2 := HBE8.out.cell 2
      have b3 := HBE8.out.cell 3
      have b4 := HBE8.out.cell 4
      have c0 := HBE8.out.frozen 0
      have c1 := HBE8.out.frozen 1
      have c2 := HBE8.out.frozen 2
      have c3 := HBE8.out.frozen 3
      have c4 := HBE8.out.frozen 4
      have cz := HBE8.out.lt
      simp at b0 b1 b2 b3 b4
      go_upto_region 10 with fail
      obtain ⟨WF, hWF⟩ : ∃ WF, WF = set5 w8 w6.heap.size (.int .i64 d'.kind) (.string d'.name) (.slice SA' d'.subs.length sc') (.string d'.val) (.int .i64 d'.n) := ⟨_, rfl⟩
      have hWF' := hWF
      unfold set5 at hWF'
      rw [← hWF']
      have HDF : Hid (Drawn p (0 + 100 + 220 + 16 + 2 + 130) w6 WF) := by
        subst hWF
        exact ((((HDy.out.set (Nat.le_refl _) hp6 0 _).set (Nat.le_refl _) hp6 1 _).set (Nat.le_refl _) hp6 2 _).set (Nat.le_refl _) hp6 3 _).set (Nat.le_refl _) hp6 4 _
      have HBEk : Hid (Blk WF w6.heap.size 55 #[.int .i64 d'.kind, .string d'.name, .slice SA' d'.subs.length sc', .string d'.val, .int .i64 d'.n]) := by
        subst hWF
        have h := ((((HBE8.out.set_ 0 (.int .i64 d'.kind)).set_ 1 (.string d'.name)).set_ 2 (.slice SA' d'.subs.length sc')).set_ 3 (.string d'.val)).set_ 4 (.int .i64 d'.n)
        unfold set5 Hid
        simpa using h
      have HSUk : Hid (Own.SubO WF w1.heap.size (.slice SA' d'.subs.length sc') d'.subs) := by
        subst hWF
        exact Own.own_chg HSU8.out (set5_chg _ _ _ _ _ _ _) (own_not HSU8.out (t := 55) (by decide) (fun g hg => by subst hg; exact ⟨_, HBE8.out⟩))
      have HB2k := Lib.hid (Blk.drawn HB2g.out HDF.out (by omega))
      have HB3k := Lib.hid (Blk.drawn HB3g.out HDF.out (by omega))
      have HB4k := Lib.hid (Blk.drawn HB4g.out HDF.out (by omega))
      have HB6k := Lib.hid (Blk.drawn HB6g.out HDF.out (by omega))
      have HB7k := Lib.hid (Blk.drawn HB7g.out HDF.out (by omega))
      have HTTk := Lib.hid (HTTg.out.drawn HD6.out.src HDF.out)
      have HTEk := Lib.hid (HTEg.out.drawn HD6.out.src HDF.out)
      have HDZ := Lib.hid (HD6.out.trans HDF.out)
      have HBLk := Lib.hid (Own.Chg.below HB1.out HDZ.out.chg (fun g e => by rw [e, ← hp]; omega) (Nat.le_refl _))
      clear hWF hWF' b0 b1 b2 b3 b4 c0 c1 c2 c3 c4 cz
      have r2 := HB2k.out.cell 0
      have r3 := HB3k.out.cell 0
      have r4 := HB3k.out.cell 1
      have r5 := HB3k.out.cell 2
      have e0 := HB4k.out.cell 0
      have e1 := HB4k.out.cell 1
      have e2 := HB4k.out.cell 2
      have e3 := HB4k.out.cell 3
      have e4 := HB4k.out.cell 4
      have fr2 := HB2k.out.frozen 0
      have fr3 := HB3k.out.frozen 0
      have fr4 := HB3k.out.frozen 1
      have fr5 := HB3k.out.frozen 2
      have fe0 := HB4k.out.frozen 0
      have fe1 := HB4k.out.frozen 1
      have fe2 := HB4k.out.frozen 2
      have fe3 := HB4k.out.frozen 3
      have fe4 := HB4k.out.frozen 4
      have l2 := HB2k.out.lt
      have l3 := HB3k.out.lt
      have l4 := HB4k.out.lt
      have x0 := HB6k.out.cell 0
      have y0 := HB7k.out.cell 0
      have y1 := HB7k.out.cell 1
      have y2 := HB7k.out.cell 2
      have v0 := HBEk.out.cell 0
      have v1 := HBEk.out.cell 1
      have v2 := HBEk.out.cell 2
      have v3 := HBEk.out.cell 3
      have v4 := HBEk.out.cell 4
      simp at r2 r3 r4 r5 e0 e1 e2 e3 e4 x0 y0 y1 y2 v0 v1 v2 v3 v4
      have hq00 : ¬ w.heap.size = w2.heap.size := by omega
      have hr00 : ¬ w2.heap.size = w.heap.size := by omega
      have hq01 : ¬ w.heap.size = w3.heap.size := by omega
      have hr01 : ¬ w3.heap.size = w.heap.size := by omega
      have hq02 : ¬ w.heap.size = w6.heap.size := by omega
      have hr02 : ¬ w6.heap.size = w.heap.size := by omega
      have hq10 : ¬ w.heap.size + 1 = w2.heap.size := by omega
      have hr10 : ¬ w2.heap.size = w.heap.size + 1 := by omega
      have hq11 : ¬ w.heap.size + 1 = w3.heap.size := by omega
      have hr11 : ¬ w3.heap.size = w.heap.size + 1 := by omega
      have hq12 : ¬ w.heap.size + 1 = w6.heap.size := by omega
      have hr12 : ¬ w6.heap.size = w.heap.size + 1 := by omega
      have hq20 : ¬ w.heap.size + 1 + 1 = w2.heap.size := by omega
      have hr20 : ¬ w2.heap.size = w.heap.size + 1 + 1 := by omega
      have hq21 : ¬ w.heap.size + 1 + 1 = w3.heap.size := by omega
      have hr21 : ¬ w3.heap.size = w.heap.size + 1 + 1 := by omega
      have hq22 : ¬ w.heap.size + 1 + 1 = w6.heap.size := by omega
      have hr22 : ¬ w6.heap.size = w.heap.size + 1 + 1 := by omega
      have HSX : Hid (∀ W', Own.Chg (fun g => g = w.heap.size ∨ g = w.heap.size + 1 ∨ g = w.heap.size + 1 + 1) WF W' → W'.cell? ⟨w2.heap.size, 0, none⟩ = some (.slice A1 fs.length cap1) ∧ W'.cell? ⟨w3.heap.size, 0, none⟩ = some (.int .i64 dp) ∧ W'.cell? ⟨w3.heap.size, 1, none⟩ = some (.int .i64 rs) ∧ W'.cell? ⟨w3.heap.size, 2, none⟩ = some (.slice EA l.length ec) ∧ W'.cell? ⟨w6.heap.size, 0, none⟩ = some (.int .i64 d'.kind) ∧ W'.cell? ⟨w6.heap.size, 1, none⟩ = some (.string d'.name) ∧ W'.cell? ⟨w6.heap.size, 2, none⟩ = some (.slice SA' d'.subs.length sc') ∧ W'.cell? ⟨w6.heap.size, 3, none⟩ = some (.string d'.val) ∧ W'.cell? ⟨w6.heap.size, 4, none⟩ = some (.int .i64 d'.n)) := fun W' hW => by
        have h6 := Own.Blk.chg HB6k.out hW (by omega)
        have h7 := Own.Blk.chg HB7k.out hW (by omega)
        have hE := Own.Blk.chg HBEk.out hW (by omega)
        exact ⟨h6.at 0 rfl, h7.at 0 rfl, h7.at 1 rfl, h7.at 2 rfl, hE.at 0 rfl, hE.at 1 rfl, hE.at 2 rfl, hE.at 3 rfl, hE.at 4 rfl⟩
      go_wp2_with fail
      go_region_held3 (fun W' => W'.cell? ⟨w2.heap.size, 0, none⟩ = some (.slice A1 fs.length cap1) ∧ W'.cell? ⟨w3.heap.size, 0, none⟩ = some (.int .i64 dp) ∧ W'.cell? ⟨w3.heap.size, 1, none⟩ = some (.int .i64 rs) ∧ W'.cell? ⟨w3.heap.size, 2, none⟩ = some (.slice EA l.length ec) ∧ W'.cell? ⟨w6.heap.size, 0, none⟩ = some (.int .i64 d'.kind) ∧ W'.cell? ⟨w6.heap.size, 1, none⟩ = some (.string d'.name) ∧ W'.cell? ⟨w6.heap.size, 2, none⟩ = some (.slice SA' d'.subs.length sc') ∧ W'.cell? ⟨w6.heap.size, 3, none⟩ = some (.string d'.val) ∧ W'.cell? ⟨w6.heap.size, 4, none⟩ = some (.int .i64 d'.n))
        (first | (refine HSX.out _ ?_; (repeat (first | with_reducible exact Own.Chg.refl _ _ | with_reducible refine chgA ?_ _ | with_reducible refine chgDr ?_ | with_reducible refine chgS ?_ (.inl rfl) | with_reducible refine chgS ?_ (.inr (.inl rfl)) | with_reducible refine chgS ?_ (.inr (.inr rfl)))); done))
        (fail)
      all_goals go_wp2_with fail
      all_goals
        refine bodyPost_ret (v := .tuple #[.agg #[.slice A1 fs.length cap1], .agg #[.int .i64 dp, .int .i64 rs, .slice EA l.length ec], .agg #[.int .i64 d'.kind, .string d'.name, .slice SA' d'.subs.length sc', .string d'.val, .int .i64 d'.n]]) (by simp [results, Tryz.results37, go_sem, r2, r3, r4, r5, e0, e1, e2, e3, e4, hn01, hn10, hn02, hn20, hn12, hn21]) rfl ?_
        exact dnote_end (w := w) (W := WF) (B := w1.heap.size) (x := ⟨dp, rs, l⟩) (d := d') (fs := fs) (by repeat' first | with_reducible exact Own.Chg.refl _ _ | with_reducible refine chgDr ?_ | with_reducible refine chgA ?_ _ | with_reducible refine chgS ?_ (.inl rfl) | with_reducible refine chgS ?_ (.inr (.inl rfl)) | with_reducible refine chgS ?_ (.inr (.inr rfl))) (by omega) rfl HTTk.out HTF.out HTEk.out HFY.out HSUk.out HOKk.out HBLk.out
    have HVG : Hid (treeB vs = true ∧ fineT vs) := ⟨HVT.out hvc, HVF.out⟩
    subst hvc
    have HKO4 := Lib.hid (one_any p (0 + 100 + 220) 4 wc HDc.out.src (by omega) (by omega))
    clear x6 z8 zz zc
    go_wp2_with fail
    refine HKO4.out.mono ?_
    rintro e w5 ⟨b4, rfl, hd5⟩
    have HWC : Hid (Drawn p (0 + 100 + 220 + 2) WY w5) := ((Drawn.refl HDY.out.src).later HBC.out).trans hd5
    have HB8d := Lib.hid (Blk.drawn HB8c.out hd5 (by omega))
    have HN8d := Lib.hid (HN8.out.drawn HDc.out.src hd5)
    have HB6d := Lib.hid (Blk.drawn HB6c.out hd5 (by omega))
    clear hd5 HKO4
    cases b4
    case false =>
      have HB2s := Lib.hid (Blk.drawn HB2.out HWC.out (by omega))
      have HB3s := Lib.hid (Blk.drawn HB3.out HWC.out (by omega))
      have HB4s := Lib.hid (Blk.drawn HB4.out HWC.out (by omega))
      have HB6s := Lib.hid (Blk.drawn HB6.out HWC.out (by omega))
      have HB7s := Lib.hid (Blk.drawn HB7.out HWC.out (by omega))
      have HTTs := Lib.hid (HTT.out.drawn HDY.out.src HWC.out)
      have HTEs := Lib.hid (HTE.out.drawn HDY.out.src HWC.out)
      have HB8s := HB8d
      have HDs := Lib.hid (HDY.out.trans HWC.out)
      have HNs : Hid (Nodes w5 w5.heap.size A8 vs.length vs) := by
        obtain ⟨A', c', e, _, h1⟩ := HN8d.out.reads
        injection e with e1 e2 e3
        subst e1
        exact h1
      have HGG := HVG
      have HKN := Lib.hid (l25Note_any p (0 + 100 + 220 + 2) A8 vs.length c8 vs w5 HDs.out.src (by omega) HNs.out HGG.out.1 HGG.out.2)
      have q8c := HB8s.out.cell 0
      simp at q8c
      go_wp2_with fail
      refine HKN.out.mono ?_
      rintro e w6 ⟨sv, d, rfl, hsub, hgd, _, hd6⟩
      obtain ⟨SA, sc, rfl, _, _⟩ := Own.SubO.strs hsub
      have HD6 := Lib.hid (HDs.out.trans hd6)
      have HB2g := Lib.hid (Blk.drawn HB2s.out hd6 (by omega))
      have HB3g := Lib.hid (Blk.drawn HB3s.out hd6 (by omega))
      have HB4g := Lib.hid (Blk.drawn HB4s.out hd6 (by omega))
      have HB6g := Lib.hid (Blk.drawn HB6s.out hd6 (by omega))
      have HB7g := Lib.hid (Blk.drawn HB7s.out hd6 (by omega))
      have HTTg := Lib.hid (HTTs.out.drawn HDs.out.src hd6)
      have HTEg := Lib.hid (HTEs.out.drawn HDs.out.src hd6)
      have HSUg : Hid (Own.SubO w6 w1.heap.size (.slice SA d.subs.length sc) d.subs) := Own.own_base hsub HDs.out.chg.size
      have HOKa := Lib.hid hgd.1
      have hw6 := HD6.out.chg.size
      have hp6 := HD6.out.lt
      clear hsub hgd hd6 HKN q8c
      obtain ⟨WE, hWE⟩ : ∃ WE, WE = w6.alloc (.cells #[.int .i64 d.kind, .string d.name, .slice SA d.subs.length sc, .string d.val, .int .i64 d.n] 55) := ⟨_, rfl⟩
      have HWE : Hid (Below w6.heap.size w6 WE) := by subst hWE; exact Below.new _ _
      have HBEe : Hid (Blk WE w6.heap.size 55 #[.int .i64 d.kind, .string d.name, .slice SA d.subs.length sc, .string d.val, .int .i64 d.n]) := by subst hWE; exact heap_alloc_new _ _
      have HDE := Lib.hid (HD6.out.later HWE.out)
      have HKO := Lib.hid (one_any p (0 + 100 + 220 + 2 + 16) 8 WE HDE.out.src (by omega) (by omega))
      have hz6 : w3.heap.size < w6.heap.size := HB7g.out.lt
      go_wp2_with fail
      rw [← hWE]
      clear hWE
      refine HKO.out.mono ?_
      rintro e w7 ⟨b8, rfl, hd7⟩
      have HD7 := Lib.hid (HDE.out.trans hd7)
      have HDx := Lib.hid (hd7.pre HWE.out)
      have HBEa := Lib.hid (Blk.drawn HBEe.out hd7 (by omega))
      clear hd7 HKO
      cases b8
      case false =>
        have HB2a := Lib.hid (Blk.drawn HB2g.out HDx.out (by omega))
        have HB3a := Lib.hid (Blk.drawn HB3g.out HDx.out (by omega))
        have HB4a := Lib.hid (Blk.drawn HB4g.out HDx.out (by omega))
        have HB6a := Lib.hid (Blk.drawn HB6g.out HDx.out (by omega))
        have HB7a := Lib.hid (Blk.drawn HB7g.out HDx.out (by omega))
        have HTTa := Lib.hid (HTTg.out.drawn HD6.out.src HDx.out)
        have HTEa := Lib.hid (HTEg.out.drawn HD6.out.src HDx.out)
        have HSUa : Hid (Own.SubO w7 w1.heap.size (.slice SA d.subs.length sc) d.subs) := SubO.drawn HSUg.out HD6.out.src HDx.out
        have HBLa := Lib.hid (Own.Chg.below HB1.out HD7.out.chg (fun g e => by rw [e, ← hp]; omega) (Nat.le_refl _))
        have r2 := HB2a.out.cell 0
        have r3 := HB3a.out.cell 0
        have r4 := HB3a.out.cell 1
        have r5 := HB3a.out.cell 2
        have e0 := HB4a.out.cell 0
        have e1 := HB4a.out.cell 1
        have e2 := HB4a.out.cell 2
        have e3 := HB4a.out.cell 3
        have e4 := HB4a.out.cell 4
        have fr2 := HB2a.out.frozen 0
        have fr3 := HB3a.out.frozen 0
        have fr4 := HB3a.out.frozen 1
        have fr5 := HB3a.out.frozen 2
        have fe0 := HB4a.out.frozen 0
        have fe1 := HB4a.out.frozen 1
        have fe2 := HB4a.out.frozen 2
        have fe3 := HB4a.out.frozen 3
        have fe4 := HB4a.out.frozen 4
        have l2 := HB2a.out.lt
        have l3 := HB3a.out.lt
        have l4 := HB4a.out.lt
        have x0 := HB6a.out.cell 0
        have y0 := HB7a.out.cell 0
        have y1 := HB7a.out.cell 1
        have y2 := HB7a.out.cell 2
        have v0 := HBEa.out.cell 0
        have v1 := HBEa.out.cell 1
        have v2 := HBEa.out.cell 2
        have v3 := HBEa.out.cell 3
        have v4 := HBEa.out.cell 4
        simp at r2 r3 r4 r5 e0 e1 e2 e3 e4 x0 y0 y1 y2 v0 v1 v2 v3 v4
        have hq00 : ¬ w.heap.size = w2.heap.size := by omega
        have hr00 : ¬ w2.heap.size = w.heap.size := by omega
        have hq01 : ¬ w.heap.size = w3.heap.size := by omega
        have hr01 : ¬ w3.heap.size = w.heap.size := by omega
        have hq02 : ¬ w.heap.size = w6.heap.size := by omega
        have hr02 : ¬ w6.heap.size = w.heap.size := by omega
        have hq10 : ¬ w.heap.size + 1 = w2.heap.size := by omega
        have hr10 : ¬ w2.heap.size = w.heap.size + 1 := by omega
        have hq11 : ¬ w.heap.size + 1 = w3.heap.size := by omega
        have hr11 : ¬ w3.heap.size = w.heap.size + 1 := by omega
        have hq12 : ¬ w.heap.size + 1 = w6.heap.size := by omega
        have hr12 : ¬ w6.heap.size = w.heap.size + 1 := by omega
        have hq20 : ¬ w.heap.size + 1 + 1 = w2.heap.size := by omega
        have hr20 : ¬ w2.heap.size = w.heap.size + 1 + 1 := by omega
        have hq21 : ¬ w.heap.size + 1 + 1 = w3.heap.size := by omega
        have hr21 : ¬ w3.heap.size = w.heap.size + 1 + 1 := by omega
        have hq22 : ¬ w.heap.size + 1 + 1 = w6.heap.size := by omega
        have hr22 : ¬ w6.heap.size = w.heap.size + 1 + 1 := by omega
        have HSX : Hid (∀ W', Own.Chg (fun g => g = w.heap.size ∨ g = w.heap.size + 1 ∨ g = w.heap.size + 1 + 1) w7 W' → W'.cell? ⟨w2.heap.size, 0, none⟩ = some (.slice A1 fs.length cap1) ∧ W'.cell? ⟨w3.heap.size, 0, none⟩ = some (.int .i64 dp) ∧ W'.cell? ⟨w3.heap.size, 1, none⟩ = some (.int .i64 rs) ∧ W'.cell? ⟨w3.heap.size, 2, none⟩ = some (.slice EA l.length ec) ∧ W'.cell? ⟨w6.heap.size, 0, none⟩ = some (.int .i64 d.kind) ∧ W'.cell? ⟨w6.heap.size, 1, none⟩ = some (.string d.name) ∧ W'.cell? ⟨w6.heap.size, 2, none⟩ = some (.slice SA d.subs.length sc) ∧ W'.cell? ⟨w6.heap.size, 3, none⟩ = some (.string d.val) ∧ W'.cell? ⟨w6.heap.size, 4, none⟩ = some (.int .i64 d.n)) := fun W' hW => by
          have h6 := Own.Blk.chg HB6a.out hW (by omega)
          have h7 := Own.Blk.chg HB7a.out hW (by omega)
          have hE := Own.Blk.chg HBEa.out hW (by omega)
          exact ⟨h6.at 0 rfl, h7.at 0 rfl, h7.at 1 rfl, h7.at 2 rfl, hE.at 0 rfl, hE.at 1 rfl, hE.at 2 rfl, hE.at 3 rfl, hE.at 4 rfl⟩
        go_wp2_with fail
        go_region_held3 (fun W' => W'.cell? ⟨w2.heap.size, 0, none⟩ = some (.slice A1 fs.length cap1) ∧ W'.cell? ⟨w3.heap.size, 0, none⟩ = some (.int .i64 dp) ∧ W'.cell? ⟨w3.heap.size, 1, none⟩ = some (.int .i64 rs) ∧ W'.cell? ⟨w3.heap.size, 2, none⟩ = some (.slice EA l.length ec) ∧ W'.cell? ⟨w6.heap.size, 0, none⟩ = some (.int .i64 d.kind) ∧ W'.cell? ⟨w6.heap.size, 1, none⟩ = some (.string d.name) ∧ W'.cell? ⟨w6.heap.size, 2, none⟩ = some (.slice SA d.subs.length sc) ∧ W'.cell? ⟨w6.heap.size, 3, none⟩ = some (.string d.val) ∧ W'.cell? ⟨w6.heap.size, 4, none⟩ = some (.int .i64 d.n))
          (first | (refine HSX.out _ ?_; (repeat (first | with_reducible exact Own.Chg.refl _ _ | with_reducible refine chgA ?_ _ | with_reducible refine chgDr ?_ | with_reducible refine chgS ?_ (.inl rfl) | with_reducible refine chgS ?_ (.inr (.inl rfl)) | with_reducible refine chgS ?_ (.inr (.inr rfl)))); done))
          (fail)
        all_goals go_wp2_with fail
        all_goals
          refine bodyPost_ret (v := .tuple #[.agg #[.slice A1 fs.length cap1], .agg #[.int .i64 dp, .int .i64 rs, .slice EA l.length ec], .agg #[.int .i64 d.kind, .string d.name, .slice SA d.subs.length sc, .string d.val, .int .i64 d.n]]) (by simp [results, Tryz.results37, go_sem, r2, r3, r4, r5, e0, e1, e2, e3, e4, hn01, hn10, hn02, hn20, hn12, hn21]) rfl ?_
          exact dnote_end (w := w) (W := w7) (B := w1.heap.size) (x := ⟨dp, rs, l⟩) (d := d) (fs := fs) (by repeat' first | with_reducible exact Own.Chg.refl _ _ | with_reducible refine chgDr ?_ | with_reducible refine chgA ?_ _ | with_reducible refine chgS ?_ (.inl rfl) | with_reducible refine chgS ?_ (.inr (.inl rfl)) | with_reducible refine chgS ?_ (.inr (.inr rfl))) (by omega) rfl HTTa.out HTF.out HTEa.out HFY.out HSUa.out HOKa.out HBLa.out
      have HKA := Lib.hid (l25AnyEvent_any p (0 + 100 + 220 + 2 + 16 + 2) w7 HD7.out.src (by omega))
      go_wp2_with fail
      refine HKA.out.mono ?_
      rintro e w8 ⟨sv, d', rfl, hsub, hok, hd8⟩
      obtain ⟨SA', sc', rfl, _, _⟩ := Own.SubO.strs hsub
      have HD8 := Lib.hid (HD7.out.trans hd8)
      have HDy := Lib.hid (HDx.out.trans hd8)
      have HSU8 : Hid (Own.SubO w8 w1.heap.size (.slice SA' d'.subs.length sc') d'.subs) := Own.own_base hsub HD7.out.chg.size
      have HBE8 := Lib.hid (Blk.drawn HBEa.out hd8 (by omega))
      have HOKk := Lib.hid hok
      clear hsub hok hd8 HKA
      have b0 := HBE8.out.cell 0
      have b1 := HBE8.out.cell 1
      have b2 := HBE8.out.cell 2
      have b3 := HBE8.out.cell 3
      have b4 := HBE8.out.cell 4
      have c0 := HBE8.out.frozen 0
      have c1 := HBE8.out.frozen 1
      have c2 := HBE8.out.frozen 2
      have c3 := HBE8.out.frozen 3
      have c4 := HBE8.out.frozen 4
      have cz := HBE8.out.lt
      simp at b0 b1 b2 b3 b4
      go_upto_region 10 with fail
      obtain ⟨WF, hWF⟩ : ∃ WF, WF = set5 w8 w6.heap.size (.int .i64 d'.kind) (.string d'.name) (.slice SA' d'.subs.length sc') (.string d'.val) (.int .i64 d'.n) := ⟨_, rfl⟩
      have hWF' := hWF
      unfold set5 at hWF'
      rw [← hWF']
      have HDF : Hid (Drawn p (0 + 100 + 220 + 2 + 16 + 2 + 130) w6 WF) := by
        subst hWF
        exact ((((HDy.out.set (Nat.le_refl _) hp6 0 _).set (Nat.le_refl _) hp6 1 _).set (Nat.le_refl _) hp6 2 _).set (Nat.le_refl _) hp6 3 _).set (Nat.le_refl _) hp6 4 _
      have HBEk : Hid (Blk WF w6.heap.size 55 #[.int .i64 d'.kind, .string d'.name, .slice SA' d'.subs.length sc', .string d'.val, .int .i64 d'.n]) := by
        subst hWF
        have h := ((((HBE8.out.set_ 0 (.int .i64 d'.kind)).set_ 1 (.string d'.name)).set_ 2 (.slice SA' d'.subs.length sc')).set_ 3 (.string d'.val)).set_ 4 (.int .i64 d'.n)
        unfold set5 Hid
        simpa using h
      have HSUk : Hid (Own.SubO WF w1.heap.size (.slice SA' d'.subs.length sc') d'.subs) := by
        subst hWF
        exact Own.own_chg HSU8.out (set5_chg _ _ _ _ _ _ _) (own_not HSU8.out (t := 55) (by decide) (fun g hg => by subst hg; exact ⟨_, HBE8.out⟩))
      have HB2k := Lib.hid (Blk.drawn HB2g.out HDF.out (by omega))
      have HB3k := Lib.hid (Blk.drawn HB3g.out HDF.out (by omega))
      have HB4k := Lib.hid (Blk.drawn HB4g.out HDF.out (by omega))
      have HB6k := Lib.hid (Blk.drawn HB6g.out HDF.out (by omega))
      have HB7k := Lib.hid (Blk.drawn HB7g.out HDF.out (by omega))
      have HTTk := Lib.hid (HTTg.out.drawn HD6.out.src HDF.out)
      have HTEk := Lib.hid (HTEg.out.drawn HD6.out.src HDF.out)
      have HDZ := Lib.hid (HD6.out.trans HDF.out)
      have HBLk := Lib.hid (Own.Chg.below HB1.out HDZ.out.chg (fun g e => by rw [e, ← hp]; omega) (Nat.le_refl _))
      clear hWF hWF' b0 b1 b2 b3 b4 c0 c1 c2 c3 c4 cz
      have r2 := HB2k.out.cell 0
      have r3 := HB3k.out.cell 0
      have r4 := HB3k.out.cell 1
      have r5 := HB3k.out.cell 2
      have e0 := HB4k.out.cell 0
      have e1 := HB4k.out.cell 1
      have e2 := HB4k.out.cell 2
      have e3 := HB4k.out.cell 3
      have e4 := HB4k.out.cell 4
      have fr2 := HB2k.out.frozen 0
      have fr3 := HB3k.out.frozen 0
      have fr4 := HB3k.out.frozen 1
      have fr5 := HB3k.out.frozen 2
      have fe0 := HB4k.out.frozen 0
      have fe1 := HB4k.out.frozen 1
      have fe2 := HB4k.out.frozen 2
      have fe3 := HB4k.out.frozen 3
      have fe4 := HB4k.out.frozen 4
      have l2 := HB2k.out.lt
      have l3 := HB3k.out.lt
      have l4 := HB4k.out.lt
      have x0 := HB6k.out.cell 0
      have y0 := HB7k.out.cell 0
      have y1 := HB7k.out.cell 1
      have y2 := HB7k.out.cell 2
      have v0 := HBEk.out.cell 0
      have v1 := HBEk.out.cell 1
      have v2 := HBEk.out.cell 2
      have v3 := HBEk.out.cell 3
      have v4 := HBEk.out.cell 4
      simp at r2 r3 r4 r5 e0 e1 e2 e3 e4 x0 y0 y1 y2 v0 v1 v2 v3 v4
      have hq00 : ¬ w.heap.size = w2.heap.size := by omega
      have hr00 : ¬ w2.heap.size = w.heap.size := by omega
      have hq01 : ¬ w.heap.size = w3.heap.size := by omega
      have hr01 : ¬ w3.heap.size = w.heap.size := by omega
      have hq02 : ¬ w.heap.size = w6.heap.size := by omega
      have hr02 : ¬ w6.heap.size = w.heap.size := by omega
      have hq10 : ¬ w.heap.size + 1 = w2.heap.size := by omega
      have hr10 : ¬ w2.heap.size = w.heap.size + 1 := by omega
      have hq11 : ¬ w.heap.size + 1 = w3.heap.size := by omega
      have hr11 : ¬ w3.heap.size = w.heap.size + 1 := by omega
      have hq12 : ¬ w.heap.size + 1 = w6.heap.size := by omega
      have hr12 : ¬ w6.heap.size = w.heap.size + 1 := by omega
      have hq20 : ¬ w.heap.size + 1 + 1 = w2.heap.size := by omega
      have hr20 : ¬ w2.heap.size = w.heap.size + 1 + 1 := by omega
      have hq21 : ¬ w.heap.size + 1 + 1 = w3.heap.size := by omega
      have hr21 : ¬ w3.heap.size = w.heap.size + 1 + 1 := by omega
      have hq22 : ¬ w.heap.size + 1 + 1 = w6.heap.size := by omega
      have hr22 : ¬ w6.heap.size = w.heap.size + 1 + 1 := by omega
      have HSX : Hid (∀ W', Own.Chg (fun g => g = w.heap.size ∨ g = w.heap.size + 1 ∨ g = w.heap.size + 1 + 1) WF W' → W'.cell? ⟨w2.heap.size, 0, none⟩ = some (.slice A1 fs.length cap1) ∧ W'.cell? ⟨w3.heap.size, 0, none⟩ = some (.int .i64 dp) ∧ W'.cell? ⟨w3.heap.size, 1, none⟩ = some (.int .i64 rs) ∧ W'.cell? ⟨w3.heap.size, 2, none⟩ = some (.slice EA l.length ec) ∧ W'.cell? ⟨w6.heap.size, 0, none⟩ = some (.int .i64 d'.kind) ∧ W'.cell? ⟨w6.heap.size, 1, none⟩ = some (.string d'.name) ∧ W'.cell? ⟨w6.heap.size, 2, none⟩ = some (.slice SA' d'.subs.length sc') ∧ W'.cell? ⟨w6.heap.size, 3, none⟩ = some (.string d'.val) ∧ W'.cell? ⟨w6.heap.size, 4, none⟩ = some (.int .i64 d'.n)) := fun W' hW => by
        have h6 := Own.Blk.chg HB6k.out hW (by omega)
        have h7 := Own.Blk.chg HB7k.out hW (by omega)
        have hE := Own.Blk.chg HBEk.out hW (by omega)
        exact ⟨h6.at 0 rfl, h7.at 0 rfl, h7.at 1 rfl, h7.at 2 rfl, hE.at 0 rfl, hE.at 1 rfl, hE.at 2 rfl, hE.at 3 rfl, hE.at 4 rfl⟩
      go_wp2_with fail
      go_region_held3 (fun W' => W'.cell? ⟨w2.heap.size, 0, none⟩ = some (.slice A1 fs.length cap1) ∧ W'.cell? ⟨w3.heap.size, 0, none⟩ = some (.int .i64 dp) ∧ W'.cell? ⟨w3.heap.size, 1, none⟩ = some (.int .i64 rs) ∧ W'.cell? ⟨w3.heap.size, 2, none⟩ = some (.slice EA l.length ec) ∧ W'.cell? ⟨w6.heap.size, 0, none⟩ = some (.int .i64 d'.kind) ∧ W'.cell? ⟨w6.heap.size, 1, none⟩ = some (.string d'.name) ∧ W'.cell? ⟨w6.heap.size, 2, none⟩ = some (.slice SA' d'.subs.length sc') ∧ W'.cell? ⟨w6.heap.size, 3, none⟩ = some (.string d'.val) ∧ W'.cell? ⟨w6.heap.size, 4, none⟩ = some (.int .i64 d'.n))
        (first | (refine HSX.out _ ?_; (repeat (first | with_reducible exact Own.Chg.refl _ _ | with_reducible refine chgA ?_ _ | with_reducible refine chgDr ?_ | with_reducible refine chgS ?_ (.inl rfl) | with_reducible refine chgS ?_ (.inr (.inl rfl)) | with_reducible refine chgS ?_ (.inr (.inr rfl)))); done))
        (fail)
      all_goals go_wp2_with fail
      all_goals
        refine bodyPost_ret (v := .tuple #[.agg #[.slice A1 fs.length cap1], .agg #[.int .i64 dp, .int .i64 rs, .slice EA l.length ec], .agg #[.int .i64 d'.kind, .string d'.name, .slice SA' d'.subs.length sc', .string d'.val, .int .i64 d'.n]]) (by simp [results, Tryz.results37, go_sem, r2, r3, r4, r5, e0, e1, e2, e3, e4, hn01, hn10, hn02, hn20, hn12, hn21]) rfl ?_
        exact dnote_end (w := w) (W := WF) (B := w1.heap.size) (x := ⟨dp, rs, l⟩) (d := d') (fs := fs) (by repeat' first | with_reducible exact Own.Chg.refl _ _ | with_reducible refine chgDr ?_ | with_reducible refine chgA ?_ _ | with_reducible refine chgS ?_ (.inl rfl) | with_reducible refine chgS ?_ (.inr (.inl rfl)) | with_reducible refine chgS ?_ (.inr (.inr rfl))) (by omega) rfl HTTk.out HTF.out HTEk.out HFY.out HSUk.out HOKk.out HBLk.out
    have x6 := HB6d.out.cell 0
    have z8 := HB8d.out.frozen 0
    have zz := HB8d.out.lt
    have zc := HB8d.out.cell 0
    simp at x6 zc
    go_upto_region 7 with fail
    obtain ⟨WG, hWG⟩ : ∃ WG, WG = w5.setCell ⟨q8, 0, none⟩ (.slice A1 fs.length cap1) := ⟨_, rfl⟩
    rw [← hWG]
    have HWG : Hid (Drawn p (0 + 100 + 220 + 2) WY WG) := by subst hWG; exact HWC.out.set hq8' hpy 0 _
    have HB8s : Hid (Blk WG q8 26 #[.slice A1 fs.length cap1]) := by subst hWG; have h := HB8d.out.set_ 0 (.slice A1 fs.length cap1); unfold Hid; simpa using h
    have HB2s := Lib.hid (Blk.drawn HB2.out HWG.out (by omega))
    have HB3s := Lib.hid (Blk.drawn HB3.out HWG.out (by omega))
    have HB4s := Lib.hid (Blk.drawn HB4.out HWG.out (by omega))
    have HB6s := Lib.hid (Blk.drawn HB6.out HWG.out (by omega))
    have HB7s := Lib.hid (Blk.drawn HB7.out HWG.out (by omega))
    have HTTs := Lib.hid (HTT.out.drawn HDY.out.src HWG.out)
    have HTEs := Lib.hid (HTE.out.drawn HDY.out.src HWG.out)
    have HDs := Lib.hid (HDY.out.trans HWG.out)
    have HNs : Hid (Nodes WG WG.heap.size A1 fs.length fs) := by
      obtain ⟨A', c', e, _, h1⟩ := HTTs.out.reads
      injection e with e1 e2 e3
      subst e1
      exact h1
    have HGG := HTF
    clear hWG x6 z8 zz zc
    have HKN := Lib.hid (l25Note_any p (0 + 100 + 220 + 2) A1 fs.length cap1 fs WG HDs.out.src (by omega) HNs.out HGG.out.1 HGG.out.2)
    have q8c := HB8s.out.cell 0
    simp at q8c
    go_wp2_with fail
    refine HKN.out.mono ?_
    rintro e w6 ⟨sv, d, rfl, hsub, hgd, _, hd6⟩
    obtain ⟨SA, sc, rfl, _, _⟩ := Own.SubO.strs hsub
    have HD6 := Lib.hid (HDs.out.trans hd6)
    have HB2g := Lib.hid (Blk.drawn HB2s.out hd6 (by omega))
    have HB3g := Lib.hid (Blk.drawn HB3s.out hd6 (by omega))
    have HB4g := Lib.hid (Blk.drawn HB4s.out hd6 (by omega))
    have HB6g := Lib.hid (Blk.drawn HB6s.out hd6 (by omega))
    have HB7g := Lib.hid (Blk.drawn HB7s.out hd6 (by omega))
    have HTTg := Lib.hid (HTTs.out.drawn HDs.out.src hd6)
    have HTEg := Lib.hid (HTEs.out.drawn HDs.out.src hd6)
    have HSUg : Hid (Own.SubO w6 w1.heap.size (.slice SA d.subs.length sc) d.subs) := Own.own_base hsub HDs.out.chg.size
    have HOKa := Lib.hid hgd.1
    have hw6 := HD6.out.chg.size
    have hp6 := HD6.out.lt
    clear hsub hgd hd6 HKN q8c
    obtain ⟨WE, hWE⟩ : ∃ WE, WE = w6.alloc (.cells #[.int .i64 d.kind, .string d.name, .slice SA d.subs.length sc, .string d.val, .int .i64 d.n] 55) := ⟨_, rfl⟩
    have HWE : Hid (Below w6.heap.size w6 WE) := by subst hWE; exact Below.new _ _
    have HBEe : Hid (Blk WE w6.heap.size 55 #[.int .i64 d.kind, .string d.name, .slice SA d.subs.length sc, .string d.val, .int .i64 d.n]) := by subst hWE; exact heap_alloc_new _ _
    have HDE := Lib.hid (HD6.out.later HWE.out)
    have HKO := Lib.hid (one_any p (0 + 100 + 220 + 2 + 16) 8 WE HDE.out.src (by omega) (by omega))
    have hz6 : w3.heap.size < w6.heap.size := HB7g.out.lt
    go_wp2_with fail
    rw [← hWE]
    clear hWE
    refine HKO.out.mono ?_
    rintro e w7 ⟨b8, rfl, hd7⟩
    have HD7 := Lib.hid (HDE.out.trans hd7)
    have HDx := Lib.hid (hd7.pre HWE.out)
    have HBEa := Lib.hid (Blk.drawn HBEe.out hd7 (by omega))
    clear hd7 HKO
    cases b8
    case false =>
      have HB2a := Lib.hid (Blk.drawn HB2g.out HDx.out (by omega))
      have HB3a := Lib.hid (Blk.drawn HB3g.out HDx.out (by omega))
      have HB4a := Lib.hid (Blk.drawn HB4g.out HDx.out (by omega))
      have HB6a := Lib.hid (Blk.drawn HB6g.out HDx.out (by omega))
      have HB7a := Lib.hid (Blk.drawn HB7g.out HDx.out (by omega))
      have HTTa := Lib.hid (HTTg.out.drawn HD6.out.src HDx.out)
      have HTEa := Lib.hid (HTEg.out.drawn HD6.out.src HDx.out)
      have HSUa : Hid (Own.SubO w7 w1.heap.size (.slice SA d.subs.length sc) d.subs) := SubO.drawn HSUg.out HD6.out.src HDx.out
      have HBLa := Lib.hid (Own.Chg.below HB1.out HD7.out.chg (fun g e => by rw [e, ← hp]; omega) (Nat.le_refl _))
      have r2 := HB2a.out.cell 0
      have r3 := HB3a.out.cell 0
      have r4 := HB3a.out.cell 1
      have r5 := HB3a.out.cell 2
      have e0 := HB4a.out.cell 0
      have e1 := HB4a.out.cell 1
      have e2 := HB4a.out.cell 2
      have e3 := HB4a.out.cell 3
      have e4 := HB4a.out.cell 4
      have fr2 := HB2a.out.frozen 0
      have fr3 := HB3a.out.frozen 0
      have fr4 := HB3a.out.frozen 1
      have fr5 := HB3a.out.frozen 2
      have fe0 := HB4a.out.frozen 0
      have fe1 := HB4a.out.frozen 1
      have fe2 := HB4a.out.frozen 2
      have fe3 := HB4a.out.frozen 3
      have fe4 := HB4a.out.frozen 4
      have l2 := HB2a.out.lt
      have l3 := HB3a.out.lt
      have l4 := HB4a.out.lt
      have x0 := HB6a.out.cell 0
      have y0 := HB7a.out.cell 0
      have y1 := HB7a.out.cell 1
      have y2 := HB7a.out.cell 2
      have v0 := HBEa.out.cell 0
      have v1 := HBEa.out.cell 1
      have v2 := HBEa.out.cell 2
      have v3 := HBEa.out.cell 3
      have v4 := HBEa.out.cell 4
      simp at r2 r3 r4 r5 e0 e1 e2 e3 e4 x0 y0 y1 y2 v0 v1 v2 v3 v4
      have hq00 : ¬ w.heap.size = w2.heap.size := by omega
      have hr00 : ¬ w2.heap.size = w.heap.size := by omega
      have hq01 : ¬ w.heap.size = w3.heap.size := by omega
      have hr01 : ¬ w3.heap.size = w.heap.size := by omega
      have hq02 : ¬ w.heap.size = w6.heap.size := by omega
      have hr02 : ¬ w6.heap.size = w.heap.size := by omega
      have hq10 : ¬ w.heap.size + 1 = w2.heap.size := by omega
      have hr10 : ¬ w2.heap.size = w.heap.size + 1 := by omega
      have hq11 : ¬ w.heap.size + 1 = w3.heap.size := by omega
      have hr11 : ¬ w3.heap.size = w.heap.size + 1 := by omega
      have hq12 : ¬ w.heap.size + 1 = w6.heap.size := by omega
      have hr12 : ¬ w6.heap.size = w.heap.size + 1 := by omega
      have hq20 : ¬ w.heap.size + 1 + 1 = w2.heap.size := by omega
      have hr20 : ¬ w2.heap.size = w.heap.size + 1 + 1 := by omega
      have hq21 : ¬ w.heap.size + 1 + 1 = w3.heap.size := by omega
      have hr21 : ¬ w3.heap.size = w.heap.size + 1 + 1 := by omega
      have hq22 : ¬ w.heap.size + 1 + 1 = w6.heap.size := by omega
      have hr22 : ¬ w6.heap.size = w.heap.size + 1 + 1 := by omega
      have HSX : Hid (∀ W', Own.Chg (fun g => g = w.heap.size ∨ g = w.heap.size + 1 ∨ g = w.heap.size + 1 + 1) w7 W' → W'.cell? ⟨w2.heap.size, 0, none⟩ = some (.slice A1 fs.length cap1) ∧ W'.cell? ⟨w3.heap.size, 0, none⟩ = some (.int .i64 dp) ∧ W'.cell? ⟨w3.heap.size, 1, none⟩ = some (.int .i64 rs) ∧ W'.cell? ⟨w3.heap.size, 2, none⟩ = some (.slice EA l.length ec) ∧ W'.cell? ⟨w6.heap.size, 0, none⟩ = some (.int .i64 d.kind) ∧ W'.cell? ⟨w6.heap.size, 1, none⟩ = some (.string d.name) ∧ W'.cell? ⟨w6.heap.size, 2, none⟩ = some (.slice SA d.subs.length sc) ∧ W'.cell? ⟨w6.heap.size, 3, none⟩ = some (.string d.val) ∧ W'.cell? ⟨w6.heap.size, 4, none⟩ = some (.int .i64 d.n)) := fun W' hW => by
        have h6 := Own.Blk.chg HB6a.out hW (by omega)
        have h7 := Own.Blk.chg HB7a.out hW (by omega)
        have hE := Own.Blk.chg HBEa.out hW (by omega)
        exact ⟨h6.at 0 rfl, h7.at 0 rfl, h7.at 1 rfl, h7.at 2 rfl, hE.at 0 rfl, hE.at 1 rfl, hE.at 2 rfl, hE.at 3 rfl, hE.at 4 rfl⟩
      go_wp2_with fail
      go_region_held3 (fun W' => W'.cell? ⟨w2.heap.size, 0, none⟩ = some (.slice A1 fs.length cap1) ∧ W'.cell? ⟨w3.heap.size, 0, none⟩ = some (.int .i64 dp) ∧ W'.cell? ⟨w3.heap.size, 1, none⟩ = some (.int .i64 rs) ∧ W'.cell? ⟨w3.heap.size, 2, none⟩ = some (.slice EA l.length ec) ∧ W'.cell? ⟨w6.heap.size, 0, none⟩ = some (.int .i64 d.kind) ∧ W'.cell? ⟨w6.heap.size, 1, none⟩ = some (.string d.name) ∧ W'.cell? ⟨w6.heap.size, 2, none⟩ = some (.slice SA d.subs.length sc) ∧ W'.cell? ⟨w6.heap.size, 3, none⟩ = some (.string d.val) ∧ W'.cell? ⟨w6.heap.size, 4, none⟩ = some (.int .i64 d.n))
        (first | (refine HSX.out _ ?_; (repeat (first | with_reducible exact Own.Chg.refl _ _ | with_reducible refine chgA ?_ _ | with_reducible refine chgDr ?_ | with_reducible refine chgS ?_ (.inl rfl) | with_reducible refine chgS ?_ (.inr (.inl rfl)) | with_reducible refine chgS ?_ (.inr (.inr rfl)))); done))
        (fail)
      all_goals go_wp2_with fail
      all_goals
        refine bodyPost_ret (v := .tuple #[.agg #[.slice A1 fs.length cap1], .agg #[.int .i64 dp, .int .i64 rs, .slice EA l.length ec], .agg #[.int .i64 d.kind, .string d.name, .slice SA d.subs.length sc, .string d.val, .int .i64 d.n]]) (by simp [results, Tryz.results37, go_sem, r2, r3, r4, r5, e0, e1, e2, e3, e4, hn01, hn10, hn02, hn20, hn12, hn21]) rfl ?_
        exact dnote_end (w := w) (W := w7) (B := w1.heap.size) (x := ⟨dp, rs, l⟩) (d := d) (fs := fs) (by repeat' first | with_reducible exact Own.Chg.refl _ _ | with_reducible refine chgDr ?_ | with_reducible refine chgA ?_ _ | with_reducible refine chgS ?_ (.inl rfl) | with_reducible refine chgS ?_ (.inr (.inl rfl)) | with_reducible refine chgS ?_ (.inr (.inr rfl))) (by omega) rfl HTTa.out HTF.out HTEa.out HFY.out HSUa.out HOKa.out HBLa.out
    have HKA := Lib.hid (l25AnyEvent_any p (0 + 100 + 220 + 2 + 16 + 2) w7 HD7.out.src (by omega))
    go_wp2_with fail
    refine HKA.out.mono ?_
    rintro e w8 ⟨sv, d', rfl, hsub, hok, hd8⟩
    obtain ⟨SA', sc', rfl, _, _⟩ := Own.SubO.strs hsub
    have HD8 := Lib.hid (HD7.out.trans hd8)
    have HDy := Lib.hid (HDx.out.trans hd8)
    have HSU8 : Hid (Own.SubO w8 w1.heap.size (.slice SA' d'.subs.length sc') d'.subs) := Own.own_base hsub HD7.out.chg.size
    have HBE8 := Lib.hid (Blk.drawn HBEa.out hd8 (by omega))
    have HOKk := Lib.hid hok
    clear hsub hok hd8 HKA
    have b0 := HBE8.out.cell 0
    have b1 := HBE8.out.cell 1
    have b2 := HBE8.out.cell 2
    have b3 := HBE8.out.cell 3
    have b4 := HBE8.out.cell 4
    have c0 := HBE8.out.frozen 0
    have c1 := HBE8.out.frozen 1
    have c2 := HBE8.out.frozen 2
    have c3 := HBE8.out.frozen 3
    have c4 := HBE8.out.frozen 4
    have cz := HBE8.out.lt
    simp at b0 b1 b2 b3 b4
    go_upto_region 10 with fail
    obtain ⟨WF, hWF⟩ : ∃ WF, WF = set5 w8 w6.heap.size (.int .i64 d'.kind) (.string d'.name) (.slice SA' d'.subs.length sc') (.string d'.val) (.int .i64 d'.n) := ⟨_, rfl⟩
    have hWF' := hWF
    unfold set5 at hWF'
    rw [← hWF']
    have HDF : Hid (Drawn p (0 + 100 + 220 + 2 + 16 + 2 + 130) w6 WF) := by
      subst hWF
      exact ((((HDy.out.set (Nat.le_refl _) hp6 0 _).set (Nat.le_refl _) hp6 1 _).set (Nat.le_refl _) hp6 2 _).set (Nat.le_refl _) hp6 3 _).set (Nat.le_refl _) hp6 4 _
    have HBEk : Hid (Blk WF w6.heap.size 55 #[.int .i64 d'.kind, .string d'.name, .slice SA' d'.subs.length sc', .string d'.val, .int .i64 d'.n]) := by
      subst hWF
      have h := ((((HBE8.out.set_ 0 (.int .i64 d'.kind)).set_ 1 (.string d'.name)).set_ 2 (.slice SA' d'.subs.length sc')).set_ 3 (.string d'.val)).set_ 4 (.int .i64 d'.n)
      unfold set5 Hid
      simpa using h
    have HSUk : Hid (Own.SubO WF w1.heap.size (.slice SA' d'.subs.length sc') d'.subs) := by
      subst hWF
      exact Own.own_chg HSU8.out (set5_chg _ _ _ _ _ _ _) (own_not HSU8.out (t := 55) (by decide) (fun g hg => by subst hg; exact ⟨_, HBE8.out⟩))
    have HB2k := Lib.hid (Blk.drawn HB2g.out HDF.out (by omega))
    have HB3k := Lib.hid (Blk.drawn HB3g.out HDF.out (by omega))
    have HB4k := Lib.hid (Blk.drawn HB4g.out HDF.out (by omega))
    have HB6k := Lib.hid (Blk.drawn HB6g.out HDF.out (by omega))
    have HB7k := Lib.hid (Blk.drawn HB7g.out HDF.out (by omega))
    have HTTk := Lib.hid (HTTg.out.drawn HD6.out.src HDF.out)
    have HTEk := Lib.hid (HTEg.out.drawn HD6.out.src HDF.out)
    have HDZ := Lib.hid (HD6.out.trans HDF.out)
    have HBLk := Lib.hid (Own.Chg.below HB1.out HDZ.out.chg (fun g e => by rw [e, ← hp]; omega) (Nat.le_refl _))
    clear hWF hWF' b0 b1 b2 b3 b4 c0 c1 c2 c3 c4 cz
    have r2 := HB2k.out.cell 0
    have r3 := HB3k.out.cell 0
    have r4 := HB3k.out.cell 1
    have r5 := HB3k.out.cell 2
    have e0 := HB4k.out.cell 0
    have e1 := HB4k.out.cell 1
    have e2 := HB4k.out.cell 2
    have e3 := HB4k.out.cell 3
    have e4 := HB4k.out.cell 4
    have fr2 := HB2k.out.frozen 0
    have fr3 := HB3k.out.frozen 0
    have fr4 := HB3k.out.frozen 1
    have fr5 := HB3k.out.frozen 2
    have fe0 := HB4k.out.frozen 0
    have fe1 := HB4k.out.frozen 1
    have fe2 := HB4k.out.frozen 2
    have fe3 := HB4k.out.frozen 3
    have fe4 := HB4k.out.frozen 4
    have l2 := HB2k.out.lt
    have l3 := HB3k.out.lt
    have l4 := HB4k.out.lt
    have x0 := HB6k.out.cell 0
    have y0 := HB7k.out.cell 0
    have y1 := HB7k.out.cell 1
    have y2 := HB7k.out.cell 2
    have v0 := HBEk.out.cell 0
    have v1 := HBEk.out.cell 1
    have v2 := HBEk.out.cell 2
    have v3 := HBEk.out.cell 3
    have v4 := HBEk.out.cell 4
    simp at r2 r3 r4 r5 e0 e1 e2 e3 e4 x0 y0 y1 y2 v0 v1 v2 v3 v4
    have hq00 : ¬ w.heap.size = w2.heap.size := by omega
    have hr00 : ¬ w2.heap.size = w.heap.size := by omega
    have hq01 : ¬ w.heap.size = w3.heap.size := by omega
    have hr01 : ¬ w3.heap.size = w.heap.size := by omega
    have hq02 : ¬ w.heap.size = w6.heap.size := by omega
    have hr02 : ¬ w6.heap.size = w.heap.size := by omega
    have hq10 : ¬ w.heap.size + 1 = w2.heap.size := by omega
    have hr10 : ¬ w2.heap.size = w.heap.size + 1 := by omega
    have hq11 : ¬ w.heap.size + 1 = w3.heap.size := by omega
    have hr11 : ¬ w3.heap.size = w.heap.size + 1 := by omega
    have hq12 : ¬ w.heap.size + 1 = w6.heap.size := by omega
    have hr12 : ¬ w6.heap.size = w.heap.size + 1 := by omega
    have hq20 : ¬ w.heap.size + 1 + 1 = w2.heap.size := by omega
    have hr20 : ¬ w2.heap.size = w.heap.size + 1 + 1 := by omega
    have hq21 : ¬ w.heap.size + 1 + 1 = w3.heap.size := by omega
    have hr21 : ¬ w3.heap.size = w.heap.size + 1 + 1 := by omega
    have hq22 : ¬ w.heap.size + 1 + 1 = w6.heap.size := by omega
    have hr22 : ¬ w6.heap.size = w.heap.size + 1 + 1 := by omega
    have HSX : Hid (∀ W', Own.Chg (fun g => g = w.heap.size ∨ g = w.heap.size + 1 ∨ g = w.heap.size + 1 + 1) WF W' → W'.cell? ⟨w2.heap.size, 0, none⟩ = some (.slice A1 fs.length cap1) ∧ W'.cell? ⟨w3.heap.size, 0, none⟩ = some (.int .i64 dp) ∧ W'.cell? ⟨w3.heap.size, 1, none⟩ = some (.int .i64 rs) ∧ W'.cell? ⟨w3.heap.size, 2, none⟩ = some (.slice EA l.length ec) ∧ W'.cell? ⟨w6.heap.size, 0, none⟩ = some (.int .i64 d'.kind) ∧ W'.cell? ⟨w6.heap.size, 1, none⟩ = some (.string d'.name) ∧ W'.cell? ⟨w6.heap.size, 2, none⟩ = some (.slice SA' d'.subs.length sc') ∧ W'.cell? ⟨w6.heap.size, 3, none⟩ = some (.string d'.val) ∧ W'.cell? ⟨w6.heap.size, 4, none⟩ = some (.int .i64 d'.n)) := fun W' hW => by
      have h6 := Own.Blk.chg HB6k.out hW (by omega)
      have h7 := Own.Blk.chg HB7k.out hW (by omega)
      have hE := Own.Blk.chg HBEk.out hW (by omega)
      exact ⟨h6.at 0 rfl, h7.at 0 rfl, h7.at 1 rfl, h7.at 2 rfl, hE.at 0 rfl, hE.at 1 rfl, hE.at 2 rfl, hE.at 3 rfl, hE.at 4 rfl⟩
    go_wp2_with fail
    go_region_held3 (fun W' => W'.cell? ⟨w2.heap.size, 0, none⟩ = some (.slice A1 fs.length cap1) ∧ W'.cell? ⟨w3.heap.size, 0, none⟩ = some (.int .i64 dp) ∧ W'.cell? ⟨w3.heap.size, 1, none⟩ = some (.int .i64 rs) ∧ W'.cell? ⟨w3.heap.size, 2, none⟩ = some (.slice EA l.length ec) ∧ W'.cell? ⟨w6.heap.size, 0, none⟩ = some (.int .i64 d'.kind) ∧ W'.cell? ⟨w6.heap.size, 1, none⟩ = some (.string d'.name) ∧ W'.cell? ⟨w6.heap.size, 2, none⟩ = some (.slice SA' d'.subs.length sc') ∧ W'.cell? ⟨w6.heap.size, 3, none⟩ = some (.string d'.val) ∧ W'.cell? ⟨w6.heap.size, 4, none⟩ = some (.int .i64 d'.n))
      (first | (refine HSX.out _ ?_; (repeat (first | with_reducible exact Own.Chg.refl _ _ | with_reducible refine chgA ?_ _ | with_reducible refine chgDr ?_ | with_reducible refine chgS ?_ (.inl rfl) | with_reducible refine chgS ?_ (.inr (.inl rfl)) | with_reducible refine chgS ?_ (.inr (.inr rfl)))); done))
      (fail)
    all_goals go_wp2_with fail
    all_goals
      refine bodyPost_ret (v := .tuple #[.agg #[.slice A1 fs.length cap1], .agg #[.int .i64 dp, .int .i64 rs, .slice EA l.length ec], .agg #[.int .i64 d'.kind, .string d'.name, .slice SA' d'.subs.length sc', .string d'.val, .int .i64 d'.n]]) (by simp [results, Tryz.results37, go_sem, r2, r3, r4, r5, e0, e1, e2, e3, e4, hn01, hn10, hn02, hn20, hn12, hn21]) rfl ?_
      exact dnote_end (w := w) (W := WF) (B := w1.heap.size) (x := ⟨dp, rs, l⟩) (d := d') (fs := fs) (by repeat' first | with_reducible exact Own.Chg.refl _ _ | with_reducible refine chgDr ?_ | with_reducible refine chgA ?_ _ | with_reducible refine chgS ?_ (.inl rfl) | with_reducible refine chgS ?_ (.inr (.inl rfl)) | with_reducible refine chgS ?_ (.inr (.inr rfl))) (by omega) rfl HTTk.out HTF.out HTEk.out HFY.out HSUk.out HOKk.out HBLk.out
end Go.Proofs.YtgmaamnofhmecaaGreatDoor
