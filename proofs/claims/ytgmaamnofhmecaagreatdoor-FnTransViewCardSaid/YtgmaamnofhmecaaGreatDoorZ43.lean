import Derived.Test.YtgmaamnofhmecaaGreatDoorZ33
import Derived.Test.YtgmaamnofhmecaaGreatDoorZ16
import Derived.Test.YtgmaamnofhmecaaGreatDoorZ29
import Derived.Test.YtgmaamnofhmecaaGreatDoorZ42
import Derived.Test.YtgmaamnofhmecaaGreatDoorZ37
set_option linter.unusedSimpArgs false
namespace Go.Proofs.YtgmaamnofhmecaaGreatDoor
open Go.RowKit
set_option linter.unusedVariables false
set_option linter.unusedSimpArgs false
set_option maxRecDepth 100000 in
set_option maxHeartbeats 4000000 in
theorem l25SameEvents_same (A A' : Option Addr) (n c c' : Nat) (l : List EvD) (w : World) (h : Evs w w.heap.size A n l) (h' : Evs w w.heap.size A' n l) (hs : smallEs l) :
 Calls Tryz.prog 95 #[.slice A n c, .slice A' n c'] w fun e w' => e = .returned (.bool true) ∧ Below w.heap.size w w' := by
 have hn : n ≤ 1048576 := by rw [← h.1]; exact hs.1
 have Hh := Lib.hid h
 have Hh' := Lib.hid h'
 have Hl := Lib.hid h.1
 have Hs := Lib.hid hs.2
 clear h h' hs
 have hbn : ((n : Int) != (n : Int)) = false := by simp
 go_enter Tryz.func95, Tryz.ntmps95
 go_wp2_with fail
 go_loopw [5] (fun i wr => ∃ k : Nat, k ≤ n ∧ i = .int .i64 k ∧ Hid (Below w.heap.size w wr)) (fun i _ => n - (intOf i).toNat)
 case atStart => exact ⟨0, Nat.zero_le _, rfl, Below.refl _ _⟩
 case round =>
  obtain ⟨k, hk, rfl, HB⟩ := hrel
  by_cases hlt : k < n
  · obtain ⟨b, o, rfl, hbB, hcell⟩ := (Hh.out.later HB.out).2 (by omega)
    obtain ⟨b', o', rfl, hbB', hcell'⟩ := (Hh'.out.later HB.out).2 (by omega)
    obtain ⟨c0, c1, c2, c3, c4, k0, k1, k2, k3, k4, hr⟩ := hcell k hlt
    obtain ⟨d0, d1, d2, d3, d4, j0, j1, j2, j3, j4, hr'⟩ := hcell' k hlt
    clear hcell hcell'
    have hl : k < l.length := by rw [Hl.out]; exact hlt
    have hsd := (Hs.out _ (getD_memQ l k hl)).2.1.1
    generalize l.getD k default = d at *
    have HK := Lib.hid (fun W (hW : Below wr.heap.size wr W) => l25SameEvent_any c0 c1 c2 c3 c4 d0 d1 d2 d3 d4 d d W (hr.later hW) (hr'.later hW) hsd hsd)
    rw [sameE_iff.2 rfl] at HK
    clear hl hsd
    obtain ⟨rfl, rfl, ⟨S, m, q, rfl, _, _⟩, rfl, rfl⟩ := hr
    obtain ⟨rfl, rfl, ⟨S', m', q', rfl, _, _⟩, rfl, rfl⟩ := hr'
    have HSS : Hid (∀ W, Below wr.heap.size wr W → (W.cell? ⟨b, o + k * 5, none⟩ = some (.int .i64 d.kind) ∧ W.cell? ⟨b, o + k * 5 + 1, none⟩ = some (.string d.name) ∧ W.cell? ⟨b, o + k * 5 + 2, none⟩ = some (.slice S m q) ∧ W.cell? ⟨b, o + k * 5 + 3, none⟩ = some (.string d.val) ∧ W.cell? ⟨b, o + k * 5 + 4, none⟩ = some (.int .i64 d.n) ∧ W.cell? ⟨b', o' + k * 5, none⟩ = some (.int .i64 d.kind) ∧ W.cell? ⟨b', o' + k * 5 + 1, none⟩ = some (.string d.name) ∧ W.cell? ⟨b', o' + k * 5 + 2, none⟩ = some (.slice S' m' q') ∧ W.cell? ⟨b', o' + k * 5 + 3, none⟩ = some (.string d.val) ∧ W.cell? ⟨b', o' + k * 5 + 4, none⟩ = some (.int .i64 d.n))) := fun W hW => ⟨cell_later hW k0, cell_later hW k1, cell_later hW k2, cell_later hW k3, cell_later hW k4, cell_later hW j0, cell_later hW j1, cell_later hW j2, cell_later hW j3, cell_later hW j4⟩
    go_wp2_with fail
    go_region_held3 (fun W => W.cell? ⟨b, o + k * 5, none⟩ = some (.int .i64 d.kind) ∧ W.cell? ⟨b, o + k * 5 + 1, none⟩ = some (.string d.name) ∧ W.cell? ⟨b, o + k * 5 + 2, none⟩ = some (.slice S m q) ∧ W.cell? ⟨b, o + k * 5 + 3, none⟩ = some (.string d.val) ∧ W.cell? ⟨b, o + k * 5 + 4, none⟩ = some (.int .i64 d.n) ∧ W.cell? ⟨b', o' + k * 5, none⟩ = some (.int .i64 d.kind) ∧ W.cell? ⟨b', o' + k * 5 + 1, none⟩ = some (.string d.name) ∧ W.cell? ⟨b', o' + k * 5 + 2, none⟩ = some (.slice S' m' q') ∧ W.cell? ⟨b', o' + k * 5 + 3, none⟩ = some (.string d.val) ∧ W.cell? ⟨b', o' + k * 5 + 4, none⟩ = some (.int .i64 d.n))
     (first | exact HSS.out _ (Below.refl _ _).drew | exact HSS.out _ HB2.out | go_keep)
     ((go_at_call 105
       refine (HK.out _ (by exact (Below.refl _ _).drew)).mono ?_
       rintro e w2 ⟨rfl, hb2'⟩
       have HB2 := Lib.hid (undrew hb2')
       clear hb2'))
    have HB3 := Lib.hid (HB.out.later HB2.out)
    clear k0 k1 k2 k3 k4 j0 j1 j2 j3 j4
    go_wp2_with fail
    go_roundw
    case rel => exact ⟨k + 1, by omega, by go_num, HB3.out⟩
    case measure => simp [intOf]; omega
  · obtain rfl : k = n := by omega
    have hki : ¬ (k : Int) < (k : Int) := by omega
    go_wp2_with fail
    go_ret
    exact ⟨rfl, HB.out⟩
set_option maxRecDepth 100000 in
set_option maxHeartbeats 4000000 in
theorem SameTrans_same (A A' : Option Addr) (n c c' : Nat) (dp rs : Int) (l : List EvD) (w : World) (h : Evs w w.heap.size A n l) (h' : Evs w w.heap.size A' n l) (hs : smallEs l) :
 Calls Tryz.prog 34 #[.agg #[.int .i64 dp, .int .i64 rs, .slice A n c], .agg #[.int .i64 dp, .int .i64 rs, .slice A' n c']] w fun e w' => e = .returned (.bool true) ∧ Below w.heap.size w w' := by
 have HB0 : Hid (Below w.heap.size w ((w.alloc (.cells #[.int .i64 dp, .int .i64 rs, .slice A n c] 58)).alloc (.cells #[.int .i64 dp, .int .i64 rs, .slice A' n c'] 58))) := (Below.new _ _).later (Below.new _ _)
 have HK := Lib.hid (fun W (hW : Below w.heap.size w W) => l25SameEvents_same A A' n c c' l W (h.later hW) (h'.later hW) hs)
 clear h h' hs
 have hb1 : (dp == dp) = true := by simp
 have hb2 : (rs == rs) = true := by simp
 go_enter Tryz.func34, Tryz.ntmps34
 go_wp2_with fail
 refine (HK.out _ HB0.out).mono ?_
 rintro e w1 ⟨rfl, hb⟩
 have HB := Lib.hid (HB0.out.later hb)
 clear hb
 go_wp2_with fail
 go_ret
 exact ⟨rfl, HB.out⟩
end Go.Proofs.YtgmaamnofhmecaaGreatDoor
namespace Go.Proofs.YtgmaamnofhmecaaGreatDoor
open Go.RowKit
set_option linter.unusedVariables false
theorem c2Big2_any (A : Option Addr) (n c : Nat) (A' : Option Addr) (n' c' : Nat) (w : World) (hn : n ≤ 9223372036854775807) (hn' : n' ≤ 9223372036854775807) :
 Calls Tryz.prog 10 #[.slice A n c, .slice A' n' c'] w fun e w' => e = .returned (.bool (decide (1048576 < n) || decide (1048576 < n'))) ∧ w = w' := by
 by_cases h : 1048576 < n
 · go_enter Tryz.func10, Tryz.ntmps10
   go_wp2_with fail
   go_ret
   exact ⟨ret_bool (by first | (simp [h]; done) | (simp [h]; omega)), rfl⟩
 · by_cases h' : 1048576 < n'
   all_goals
    go_enter Tryz.func10, Tryz.ntmps10
    go_wp2_with fail
    go_ret
    exact ⟨ret_bool (by first | (simp [h, h']; done) | (simp [h, h']; omega)), rfl⟩
end Go.Proofs.YtgmaamnofhmecaaGreatDoor
namespace Go.Proofs.YtgmaamnofhmecaaGreatDoor
open Go.RowKit
set_option linter.unusedVariables false
theorem start_small {d r : Int} {l : List EvD} (h : smallEs l) : smallEs (startB ⟨d, r, l⟩).2.evs := by
 rw [start_is]
 split
 · exact ⟨by simp [zeroT], fun x hx => by cases hx⟩
 split
 · exact ⟨by simp [zeroT], fun x hx => by cases hx⟩
 · exact h
set_option maxRecDepth 100000 in
set_option maxHeartbeats 40000000 in
theorem fnNe_walk (A : Option Addr) (n c : Nat) (w : World) (htab : tabT w) (h : BytesR w w.heap.size A n) (hn : n ≤ 9223372036854775807) :
 Calls Tryz.prog 7 #[.slice A n c] w fun e w' => e = .returned (.bool true) ∧ Below w.heap.size w w' := by
 have HK1 := Lib.hid (c2Big2_any A n c none 0 0 w hn (by omega))
 by_cases hbig : (decide (1048576 < n) || decide (1048576 < 0)) = true
 · rw [hbig] at HK1
   clear h htab
   go_enter Tryz.func7, Tryz.ntmps7
   go_wp2_with fail
   refine HK1.out.mono ?_
   rintro e w1 ⟨rfl, rfl⟩
   go_wp2_with fail
   go_ret
   exact ⟨rfl, Below.refl _ _⟩
 rw [Bool.not_eq_true] at hbig
 rw [hbig] at HK1
 have hn6 : n ≤ 1048576 := by simp at hbig; omega
 have HK2 := Lib.hid (DrawViewOf_any A n c w h hn6)
 have HTB := Lib.hid htab
 clear h htab hbig
 go_enter Tryz.func7, Tryz.ntmps7
 go_wp2_with fail
 refine HK1.out.mono ?_
 rintro e w1 ⟨rfl, rfl⟩
 go_wp2_with fail
 refine HK2.out.mono ?_
 rintro e w1 ⟨tv, fs, ev, x, rfl, hT, htr, hfi, hev, hy, hb1⟩
 obtain ⟨dp, rs, l⟩ := x
 dsimp only at hev hy ⊢
 obtain ⟨A1, cap1, rfl, hcap1, hN⟩ := hT.reads
 obtain ⟨EA, ec, rfl, hec, hE⟩ := hev.reads
 obtain ⟨hy1, hy2, hy3, hy4, hy5, hy6⟩ := hy
 dsimp only at hy1 hy2 hy3 hy4 hy5 hy6
 have hok : okEs l := ⟨by omega, fun d hd => (hy6 d hd).1.1⟩
 have hce : cleanEs l := fun d hd => (hy6 d hd).1.2
 have hts := tree_small htr
 have hcl := fine_clean hfi
 have hsl : smallEs l := ⟨hok.1, fun e he => (hok.2 e he).1⟩
 obtain ⟨WX, hWX⟩ : ∃ WX, WX = (w1.alloc (.cells #[.slice A1 fs.length cap1] 26)).alloc (.cells #[.int .i64 dp, .int .i64 rs, .slice EA l.length ec] 58) := ⟨_, rfl⟩
 have HBX : Hid (Below w1.heap.size w1 WX) := by subst hWX; exact (Below.new _ _).later (Below.new _ _)
 have HX0 : Hid (Blk WX w1.heap.size 26 #[.slice A1 fs.length cap1]) := by subst hWX; exact heap_two0 _ _ _
 have HX1 : Hid (Blk WX (w1.heap.size + 1) 58 #[.int .i64 dp, .int .i64 rs, .slice EA l.length ec]) := by subst hWX; exact heap_two1 _ _ _
 have HS1 : Hid (∀ W', Below WX.heap.size WX W' → (W'.cell? ⟨w1.heap.size, 0, none⟩ = some (.slice A1 fs.length cap1) ∧ W'.cell? ⟨w1.heap.size + 1, 0, none⟩ = some (.int .i64 dp) ∧ W'.cell? ⟨w1.heap.size + 1, 1, none⟩ = some (.int .i64 rs) ∧ W'.cell? ⟨w1.heap.size + 1, 2, none⟩ = some (.slice EA l.length ec))) := fun W' hW => ⟨(HX0.out.later hW HX0.out.lt).at 0 rfl, (HX1.out.later hW HX1.out.lt).at 0 rfl, (HX1.out.later hW HX1.out.lt).at 1 rfl, (HX1.out.later hW HX1.out.lt).at 2 rfl⟩
 have HNX : Hid (∀ W, Below WX.heap.size WX W → Nodes W W.heap.size A1 fs.length fs) := fun W hW => hN.later (HBX.out.later hW)
 have HLX : Hid (∀ W, Below WX.heap.size WX W → Evs W W.heap.size EA l.length l) := fun W hW => hE.later (HBX.out.later hW)
 have HBW : Hid (Below w.heap.size w WX) := hb1.later HBX.out
 have HTT : Hid (∀ W, Below WX.heap.size WX W → tabT W) := fun W hW => tab_later HTB.out (HBW.out.later hW)
 have HKI := Lib.hid (fun W (hW : Below WX.heap.size WX W) => StartTrans_any dp rs EA l.length ec l W (HTT.out W hW) (HLX.out W hW) hok)
 have HKS := Lib.hid (fun W (hW : Below WX.heap.size WX W) => specStartTrans_any dp rs EA l.length ec l W (HLX.out W hW) hok)
 have HKM := Lib.hid (fun d' r' A2 c2 W (hW : Below WX.heap.size WX W) (hE2 : Evs W W.heap.size A2 l.length l) => CommitTrans_any A1 fs.length cap1 fs d' r' A2 l.length c2 l W (HTT.out W hW) (HNX.out W hW) hts hcl hE2 hok hce)
 have hss := start_small (d := dp) (r := rs) hsl
 have HNI := Lib.hid (fun h0 => nested_is (fs := fs) (d := dp) (r := rs) (l := l) htr h0)
 clear hN hE hev hT hb1 HTB hok hce htr hfi hcl hy1 hy2 hy3 hy4 hy5 hy6
 generalize startB ⟨dp, rs, l⟩ = SB at *
 obtain ⟨sc, d2, r2, l2⟩ := SB
 dsimp only at hss HNI
 obtain ⟨z0, z1, z2, z3⟩ := HS1.out _ (Below.refl _ _)
 go_wp2_with fail
 rw [← hWX]
 clear hWX
 refine (HKI.out _ (Below.refl _ _)).mono ?_
 rintro e w2 ⟨v2, rfl, hv2, hb2⟩
 dsimp only at hv2 ⊢
 obtain ⟨A2, c2, rfl, hc2, hE2⟩ := hv2.reads
 have HB2 := Lib.hid hb2
 obtain ⟨WY, hWY⟩ : ∃ WY, WY = w2.alloc (.cells #[.int .i64 d2, .int .i64 r2, .slice A2 l2.length c2] 58) := ⟨_, rfl⟩
 have HBY : Hid (Below WX.heap.size WX WY) := by subst hWY; exact HB2.out.later (Below.new _ _)
 have HY0 : Hid (Blk WY w2.heap.size 58 #[.int .i64 d2, .int .i64 r2, .slice A2 l2.length c2]) := by subst hWY; exact heap_alloc_new _ _
 have HEY : Hid (∀ W, Below WY.heap.size WY W → Evs W W.heap.size A2 l2.length l2) := fun W hW => by
  have h1 : Evs WY WY.heap.size A2 l2.length l2 := by subst hWY; exact hE2.later (Below.new _ _)
  exact h1.later hW
 clear hb2 hv2 hE2 z0 z1 z2 z3 HKI
 obtain ⟨z0, z1, z2, z3⟩ := HS1.out _ HB2.out
 have hz1 : w1.heap.size + 1 < w2.heap.size := Nat.lt_of_lt_of_le HX1.out.lt HB2.out.size
 have hz0 : w1.heap.size < w2.heap.size := by omega
 go_wp2_with fail
 rw [← hWY]
 clear hWY
 refine (HKS.out _ HBY.out).mono ?_
 rintro e w3 ⟨v3, rfl, hv3, hb3⟩
 dsimp only at hv3 ⊢
 obtain ⟨A3, c3, rfl, hc3, hE3⟩ := hv3.reads
 have HB3 := Lib.hid (HBY.out.later hb3)
 have HY3 := Lib.hid hb3
 obtain ⟨WZ, hWZ⟩ : ∃ WZ, WZ = w3.alloc (.cells #[.int .i64 d2, .int .i64 r2, .slice A3 l2.length c3] 58) := ⟨_, rfl⟩
 have HYZ : Hid (Below WY.heap.size WY WZ) := by subst hWZ; exact hb3.later (Below.new _ _)
 have HBZ := Lib.hid (HBY.out.later HYZ.out)
 have HZ0 : Hid (Blk WZ w3.heap.size 58 #[.int .i64 d2, .int .i64 r2, .slice A3 l2.length c3]) := by subst hWZ; exact heap_alloc_new _ _
 have HEZ : Hid (∀ W, Below WZ.heap.size WZ W → Evs W W.heap.size A3 l2.length l2) := fun W hW => by
  have h1 : Evs WZ WZ.heap.size A3 l2.length l2 := by subst hWZ; exact hE3.later (Below.new _ _)
  exact h1.later hW
 have HKE := Lib.hid (SameTrans_same A2 A3 l2.length c2 c3 d2 r2 l2 WZ (HEY.out _ HYZ.out) (HEZ.out _ (Below.refl _ _)) hss)
 clear hb3 hv3 hE3 z0 z1 z2 z3 HKS hz0 hz1
 have hyb := HY0.out.later HY3.out HY0.out.lt
 have y0 := hyb.cell 0
 have y1 := hyb.cell 1
 have y2 := hyb.cell 2
 have yz := hyb.lt
 simp at y0 y1 y2
 have hsc : ((sc != sc) : Bool) = false := by simp
 go_wp2_with fail
 rw [← hWZ]
 clear hWZ y0 y1 y2 yz hyb
 refine HKE.out.mono ?_
 rintro e w4 ⟨rfl, hb4⟩
 have HB4 := Lib.hid (HBZ.out.later hb4)
 have HYW := Lib.hid (HYZ.out.later hb4)
 clear hb4 HKE
 by_cases hs0 : sc = 0
 case neg =>
  have hb0 : (sc != (0 : Int)) = true := by simpa using hs0
  go_wp2_with fail
  go_ret
  exact ⟨rfl, HBW.out.later HB4.out⟩
 obtain ⟨hsb, hn0, hn1⟩ := HNI.out hs0
 injection hsb with e1 e2
 injection e2 with e2 e3 e4
 have e5 := e3.symm
 have e6 := e4.symm
 subst e1 e2 e5 e6
 have HYB := Lib.hid (HY0.out.later HYW.out HY0.out.lt)
 have HKC0 := Lib.hid (HKM.out (dp + 1) rs A2 c2 w4 HB4.out (HEY.out _ HYW.out))
 obtain ⟨z0, z1, z2, z3⟩ := HS1.out _ HB4.out
 have y0 := HYB.out.cell 0
 have y1 := HYB.out.cell 1
 have y2 := HYB.out.cell 2
 have yz := HYB.out.lt
 simp at y0 y1 y2
 clear HNI HKM
 by_cases hd0 : dp = 0
 · have HKC := HKC0
   rw [hn0 hd0] at HKC
   have hdb : (dp == (0 : Int)) = true := by simpa using hd0
   clear HKC0 hn0 hn1
   subst hd0
   go_wp2_with fail
   refine HKC.out.mono ?_
   rintro e w5 ⟨v5, tv5, cv5, rfl, hv5, ht5, hc5, hb5⟩
   obtain ⟨AT, ct, rfl, hct, hNT⟩ := ht5.reads
   obtain ⟨AC, cc, rfl, hcc, _⟩ := hc5.reads
   obtain ⟨AV, cv, rfl, hcv, hEV⟩ := hv5.reads
   dsimp only [List.length_nil, zeroT] at hct hNT hcc hcv hEV ⊢
   have HB5 := Lib.hid (HB4.out.later hb5)
   have HX5 := Lib.hid hb5
   obtain ⟨WQ, hWQ⟩ : ∃ WQ, WQ = (w5.alloc (.cells #[.int .i64 0, .int .i64 0, .slice AV 0 cv] 58)).alloc (.cells #[.slice AT fs.length ct] 26) := ⟨_, rfl⟩
   have HBQ : Hid (Below w5.heap.size w5 WQ) := by subst hWQ; exact (Below.new _ _).later (Below.new _ _)
   have HQ0 : Hid (Blk WQ w5.heap.size 58 #[.int .i64 0, .int .i64 0, .slice AV 0 cv]) := by subst hWQ; exact heap_two0 _ _ _
   have HQ1 : Hid (Blk WQ (w5.heap.size + 1) 26 #[.slice AT fs.length ct]) := by subst hWQ; exact heap_two1 _ _ _
   have HWQ := Lib.hid (HB5.out.later HBQ.out)
   have HNT : Hid (∀ W, Below WQ.heap.size WQ W → Nodes W W.heap.size AT fs.length fs) := fun W hW => hNT.later (HBQ.out.later hW)
   have HKT := Lib.hid (fun W (hW : Below WQ.heap.size WQ W) => specSameTree_any AT A1 fs.length ct fs.length cap1 fs fs W (HNT.out W hW) (HNX.out W (HWQ.out.later hW)) hts hts)
   rw [decide_eq_true rfl] at HKT
   have HSQ : Hid (∀ W', Below WQ.heap.size WQ W' → (W'.cell? ⟨w5.heap.size, 0, none⟩ = some (.int .i64 0) ∧ W'.cell? ⟨w5.heap.size, 1, none⟩ = some (.int .i64 0) ∧ W'.cell? ⟨w5.heap.size, 2, none⟩ = some (.slice AV 0 cv) ∧ W'.cell? ⟨w5.heap.size + 1, 0, none⟩ = some (.slice AT fs.length ct))) := fun W' hW => ⟨(HQ0.out.later hW HQ0.out.lt).at 0 rfl, (HQ0.out.later hW HQ0.out.lt).at 1 rfl, (HQ0.out.later hW HQ0.out.lt).at 2 rfl, (HQ1.out.later hW HQ1.out.lt).at 0 rfl⟩
   clear hb5 hv5 ht5 hc5 hNT hEV z0 z1 z2 z3
   obtain ⟨z0, z1, z2, z3⟩ := HS1.out _ HB5.out
   have hz1 : w1.heap.size + 1 < w5.heap.size := Nat.lt_of_lt_of_le HX1.out.lt HB5.out.size
   have hz0 : w1.heap.size < w5.heap.size := by omega
   go_wp2_with fail
   rw [← hWQ]
   clear hWQ z0 z1 z2 z3
   obtain ⟨z0, z1, z2, z3⟩ := HS1.out _ HWQ.out
   obtain ⟨q0, q1, q2, q3⟩ := HSQ.out _ (Below.refl _ _)
   go_wp2_with fail
   refine (HKT.out _ (Below.refl _ _)).mono ?_
   rintro e w6 ⟨rfl, hb6⟩
   have HB6 := Lib.hid hb6
   clear hb6 z0 z1 z2 z3 q0 q1 q2 q3
   obtain ⟨q0, q1, q2, q3⟩ := HSQ.out _ HB6.out
   have HB7 := Lib.hid (HWQ.out.later HB6.out)
   go_wp2_with fail
   go_ret
   exact ⟨rfl, HBW.out.later HB7.out⟩
 · have HKC := HKC0
   rw [hn1 hd0] at HKC
   have hdb : (dp == (0 : Int)) = false := beq_eq_false_iff_ne.2 hd0
   clear HKC0 hn0 hn1
   go_wp2_with fail
   refine HKC.out.mono ?_
   rintro e w5 ⟨v5, tv5, cv5, rfl, hv5, ht5, hc5, hb5⟩
   obtain ⟨AT, ct, rfl, hct, hNT⟩ := ht5.reads
   obtain ⟨AC, cc, rfl, hcc, _⟩ := hc5.reads
   obtain ⟨AV, cv, rfl, hcv, hEV⟩ := hv5.reads
   dsimp only [List.length_nil, zeroT] at hct hNT hcc hcv hEV ⊢
   have HB5 := Lib.hid (HB4.out.later hb5)
   have HX5 := Lib.hid hb5
   obtain ⟨WQ, hWQ⟩ : ∃ WQ, WQ = (w5.alloc (.cells #[.int .i64 dp, .int .i64 rs, .slice AV l.length cv] 58)).alloc (.cells #[.slice AT fs.length ct] 26) := ⟨_, rfl⟩
   have HBQ : Hid (Below w5.heap.size w5 WQ) := by subst hWQ; exact (Below.new _ _).later (Below.new _ _)
   have HQ0 : Hid (Blk WQ w5.heap.size 58 #[.int .i64 dp, .int .i64 rs, .slice AV l.length cv]) := by subst hWQ; exact heap_two0 _ _ _
   have HQ1 : Hid (Blk WQ (w5.heap.size + 1) 26 #[.slice AT fs.length ct]) := by subst hWQ; exact heap_two1 _ _ _
   have HWQ := Lib.hid (HB5.out.later HBQ.out)
   have HNT : Hid (∀ W, Below WQ.heap.size WQ W → Nodes W W.heap.size AT fs.length fs) := fun W hW => hNT.later (HBQ.out.later hW)
   have HKT := Lib.hid (fun W (hW : Below WQ.heap.size WQ W) => specSameTree_any AT A1 fs.length ct fs.length cap1 fs fs W (HNT.out W hW) (HNX.out W (HWQ.out.later hW)) hts hts)
   rw [decide_eq_true rfl] at HKT
   have HEV : Hid (∀ W, Below WQ.heap.size WQ W → Evs W W.heap.size AV l.length l) := fun W hW => hEV.later (HBQ.out.later hW)
   have HKX := Lib.hid (fun W (hW : Below WQ.heap.size WQ W) => SameTrans_same AV EA l.length cv ec dp rs l W (HEV.out W hW) (HLX.out W (HWQ.out.later hW)) hsl)
   have HSQ : Hid (∀ W', Below WQ.heap.size WQ W' → (W'.cell? ⟨w5.heap.size, 0, none⟩ = some (.int .i64 dp) ∧ W'.cell? ⟨w5.heap.size, 1, none⟩ = some (.int .i64 rs) ∧ W'.cell? ⟨w5.heap.size, 2, none⟩ = some (.slice AV l.length cv) ∧ W'.cell? ⟨w5.heap.size + 1, 0, none⟩ = some (.slice AT fs.length ct))) := fun W' hW => ⟨(HQ0.out.later hW HQ0.out.lt).at 0 rfl, (HQ0.out.later hW HQ0.out.lt).at 1 rfl, (HQ0.out.later hW HQ0.out.lt).at 2 rfl, (HQ1.out.later hW HQ1.out.lt).at 0 rfl⟩
   clear hb5 hv5 ht5 hc5 hNT hEV z0 z1 z2 z3
   obtain ⟨z0, z1, z2, z3⟩ := HS1.out _ HB5.out
   have hz1 : w1.heap.size + 1 < w5.heap.size := Nat.lt_of_lt_of_le HX1.out.lt HB5.out.size
   have hz0 : w1.heap.size < w5.heap.size := by omega
   go_wp2_with fail
   rw [← hWQ]
   clear hWQ z0 z1 z2 z3
   obtain ⟨z0, z1, z2, z3⟩ := HS1.out _ HWQ.out
   obtain ⟨q0, q1, q2, q3⟩ := HSQ.out _ (Below.refl _ _)
   go_wp2_with fail
   refine (HKX.out _ (Below.refl _ _)).mono ?_
   rintro e w6 ⟨rfl, hb6⟩
   have HB6 := Lib.hid hb6
   clear hb6 z0 z1 z2 z3 q0 q1 q2 q3
   obtain ⟨z0, z1, z2, z3⟩ := HS1.out _ (HWQ.out.later HB6.out)
   obtain ⟨q0, q1, q2, q3⟩ := HSQ.out _ HB6.out
   go_wp2_with fail
   refine (HKT.out _ HB6.out).mono ?_
   rintro e w7 ⟨rfl, hb7⟩
   have HB7 := Lib.hid ((HWQ.out.later HB6.out).later hb7)
   go_wp2_with fail
   go_ret
   exact ⟨rfl, HBW.out.later HB7.out⟩
end Go.Proofs.YtgmaamnofhmecaaGreatDoor
