import Derived.Test.YtlicffeicmoifaaGreatDoorZ27
import Derived.Test.YtlicffeicmoifaaGreatDoorZ13
import Derived.Test.YtlicffeicmoifaaGreatDoorZ22
import Derived.Test.YtlicffeicmoifaaGreatDoorZ26
import Derived.Test.YtlicffeicmoifaaGreatDoorZ33
import Derived.Test.YtlicffeicmoifaaGreatDoorZ40
import Derived.Test.YtlicffeicmoifaaGreatDoorZ42
import Derived.Test.YtlicffeicmoifaaGreatDoorZ34
set_option linter.unusedSimpArgs false
namespace Go.Proofs.YtlicffeicmoifaaGreatDoor
open Go.RowKit
set_option linter.unusedVariables false
theorem set6_put (ys : List Value) (q : Nat) (c0 c1 c2 c3 c4 c5 : Value) (h : q + 5 < ys.length) :
 ((((((ys.set q c0).set (q + 1) c1).set (q + 2) c2).set (q + 3) c3).set (q + 4) c4).set (q + 5) c5) = ys.take q ++ ([c0, c1, c2, c3, c4, c5] ++ ys.drop (q + 6)) := by
 apply List.ext_getElem?
 intro j
 rw [List.getElem?_append, List.getElem?_append]
 simp only [List.getElem?_set, List.length_set, List.length_take, List.length_cons, List.length_nil, List.getElem?_drop, List.getElem?_take]
 rw [Nat.min_eq_left (show q ≤ ys.length by omega)]
 by_cases h1 : j < q
 · rw [if_neg (by omega), if_neg (by omega), if_neg (by omega), if_neg (by omega), if_neg (by omega), if_neg (by omega), if_pos h1, if_pos h1]
 · rw [if_neg h1]
   by_cases h2 : j < q + 6
   · have h3 : j = q ∨ j = q + 1 ∨ j = q + 2 ∨ j = q + 3 ∨ j = q + 4 ∨ j = q + 5 := by omega
     rcases h3 with rfl | rfl | rfl | rfl | rfl | rfl
     · rw [if_neg (by omega), if_neg (by omega), if_neg (by omega), if_neg (by omega), if_neg (by omega), if_pos rfl, if_pos (by omega), if_pos (by omega), Nat.sub_self]; rfl
     · rw [if_neg (by omega), if_neg (by omega), if_neg (by omega), if_neg (by omega), if_pos rfl, if_pos (by omega), if_pos (by omega), show q + 1 - q = 1 by omega]; rfl
     · rw [if_neg (by omega), if_neg (by omega), if_neg (by omega), if_pos rfl, if_pos (by omega), if_pos (by omega), show q + 2 - q = 2 by omega]; rfl
     · rw [if_neg (by omega), if_neg (by omega), if_pos rfl, if_pos (by omega), if_pos (by omega), show q + 3 - q = 3 by omega]; rfl
     · rw [if_neg (by omega), if_pos rfl, if_pos (by omega), if_pos (by omega), show q + 4 - q = 4 by omega]; rfl
     · rw [if_pos rfl, if_pos (by omega), if_pos (by omega), show q + 5 - q = 5 by omega]; rfl
   · rw [if_neg (by omega), if_neg (by omega), if_neg (by omega), if_neg (by omega), if_neg (by omega), if_neg (by omega), if_neg (by omega)]
     congr 1
     omega
theorem cells_put6 {R : List Value → DoD → Prop} {l : List DoD} {cs : List Value} {k : Nat} {c0 c1 c2 c3 c4 c5 : Value} {d : DoD} (h : CellsG 6 R l cs) (hk : k < l.length) (hd : R [c0, c1, c2, c3, c4, c5] d) :
 CellsG 6 R (l.set k d) ((((((cs.set (k * 6) c0).set (k * 6 + 1) c1).set (k * 6 + 2) c2).set (k * 6 + 3) c3).set (k * 6 + 4) c4).set (k * 6 + 5) c5) := by
 have hl := CellsG.len h
 rw [set6_put _ _ _ _ _ _ _ _ (by omega)]
 have e : l.set k d = l.take k ++ ([d] ++ l.drop (k + 1)) := by
  rw [List.set_eq_take_append_cons_drop, if_pos hk]
  rfl
 rw [e]
 refine CellsG.append (CellsG.take k h) (CellsG.append ⟨_, [], by rw [List.append_nil], rfl, hd, rfl⟩ ?_)
 have := CellsG.drop (k + 1) h
 rwa [show (k + 1) * 6 = k * 6 + 6 by omega] at this
def set6 (X : World) (g q : Nat) (c0 c1 c2 c3 c4 c5 : Value) : World := (((((X.setCell ⟨g, q, none⟩ c0).setCell ⟨g, q + 1, none⟩ c1).setCell ⟨g, q + 2, none⟩ c2).setCell ⟨g, q + 3, none⟩ c3).setCell ⟨g, q + 4, none⟩ c4).setCell ⟨g, q + 5, none⟩ c5
theorem row_put6 {X : World} {base n cap g k : Nat} {cs : List Value} {l : List DoD} {R : List Value → DoD → Prop} {c0 c1 c2 c3 c4 c5 : Value} {d : DoD} (h : X.ownsRow base 39 6 (.slice (some ⟨g, 0, none⟩) n cap) n cs) (hc : CellsG 6 R l cs) (hn : l.length = n) (hk : k < n) (hd : R [c0, c1, c2, c3, c4, c5] d) :
 ∃ cs', (set6 X g (k * 6) c0 c1 c2 c3 c4 c5).ownsRow base 39 6 (.slice (some ⟨g, 0, none⟩) n cap) n cs' ∧ CellsG 6 R (l.set k d) cs' := by
 obtain ⟨h0, _⟩ := h.stored (k * 6) c0
 obtain ⟨h1, _⟩ := h0.stored (k * 6 + 1) c1
 obtain ⟨h2, _⟩ := h1.stored (k * 6 + 2) c2
 obtain ⟨h3, _⟩ := h2.stored (k * 6 + 3) c3
 obtain ⟨h4, _⟩ := h3.stored (k * 6 + 4) c4
 obtain ⟨h5, _⟩ := h4.stored (k * 6 + 5) c5
 exact ⟨_, h5, cells_put6 hc (by omega) hd⟩
theorem set6_below {w X : World} {g q : Nat} {c0 c1 c2 c3 c4 c5 : Value} (h : Below w.heap.size w X) (hg : w.heap.size ≤ g) : Below w.heap.size w (set6 X g q c0 c1 c2 c3 c4 c5) :=
 (((((h.setCell (p := ⟨g, q, none⟩) hg c0).setCell (p := ⟨g, q + 1, none⟩) hg c1).setCell (p := ⟨g, q + 2, none⟩) hg c2).setCell (p := ⟨g, q + 3, none⟩) hg c3).setCell (p := ⟨g, q + 4, none⟩) hg c4).setCell (p := ⟨g, q + 5, none⟩) hg c5
theorem dos_gather {w : World} {n : Nat} {A : Option Addr} {l : List DoD} (h : Dos w w.heap.size A n l) : ∃ cs, CellsG 6 (doC w) l cs ∧ Reads w w.heap.size 6 A n cs := by
 by_cases h0 : n = 0
 · subst h0
   have hl : l = [] := List.eq_nil_of_length_eq_zero h.1
   subst hl
   exact ⟨[], rfl, Reads.none_⟩
 obtain ⟨b, o, rfl, hb, hc⟩ := h.2 (by omega)
 obtain ⟨cs, h3, h4⟩ := cells_gather (sz := 6) (R := doC w) (w := w) b l o (fun j hj => by
  obtain ⟨c0, c1, c2, c3, c4, c5, k0, k1, k2, k3, k4, k5, hr⟩ := hc j (by rw [← h.1]; exact hj)
  refine ⟨[c0, c1, c2, c3, c4, c5], rfl, ⟨c0, c1, c2, c3, c4, c5, rfl, hr⟩, fun t ht => ?_⟩
  match t, ht with
  | 0, _ => exact k0
  | 1, _ => exact k1
  | 2, _ => exact k2
  | 3, _ => exact k3
  | 4, _ => exact k4
  | 5, _ => exact k5)
 refine ⟨cs, h3, by rw [CellsG.len h3, h.1], fun _ => ⟨_, rfl, hb, fun j u hu => ?_⟩⟩
 rw [add_offN]
 exact h4 j u hu
end Go.Proofs.YtlicffeicmoifaaGreatDoor
namespace Go.Proofs.YtlicffeicmoifaaGreatDoor
open Go.RowKit
set_option linter.unusedVariables false
theorem c2Big2_any (A : Option Addr) (n c : Nat) (A' : Option Addr) (n' c' : Nat) (w : World) (hn : n ≤ 9223372036854775807) (hn' : n' ≤ 9223372036854775807) :
 Calls Tryz.prog 7 #[.slice A n c, .slice A' n' c'] w fun e w' => e = .returned (.bool (decide (1048576 < n) || decide (1048576 < n'))) ∧ w = w' := by
 by_cases h : 1048576 < n
 · go_enter Tryz.func7, Tryz.ntmps7
   go_wp2_with fail
   go_ret
   exact ⟨ret_bool (by first | (simp [h]; done) | (simp [h]; omega)), rfl⟩
 · by_cases h' : 1048576 < n'
   all_goals
    go_enter Tryz.func7, Tryz.ntmps7
    go_wp2_with fail
    go_ret
    exact ⟨ret_bool (by first | (simp [h, h']; done) | (simp [h, h']; omega)), rfl⟩
set_option maxHeartbeats 1000000 in
theorem c2At_any (A : Option Addr) (n c i : Nat) (m : Int) (w : World) (h : BytesR w w.heap.size A n) (hn : n ≤ 9223372036854775807) (hi : i ≤ 1000) (hm : m ≤ 4294967296) :
 Calls Tryz.prog 12 #[.slice A n c, .int .i64 i, .int .i64 m] w fun e w' => ∃ x : Nat, e = .returned (.int .i64 x) ∧ ((x : Int) < m ∨ x = 0) ∧ Below w.heap.size w w' := by
 have H := Lib.hid h
 clear h
 go_enter Tryz.func12, Tryz.ntmps12
 by_cases h1 : m ≤ 1
 · go_wp2_with fail
   go_ret
   exact ⟨0, rfl, .inr rfl, Below.refl _ _⟩
 · have hn0 : ¬ m = 0 := by omega
   by_cases hlt : i < n
   · obtain ⟨b, o, rfl, hb, hc⟩ := H.out (by omega)
     obtain ⟨x, hx, hx2⟩ := hc i hlt
     clear hc
     have hlt' : (i : Int) < (n : Int) := by omega
     go_wp2_with fail
     obtain ⟨z, hz1, hz2⟩ := emod_nat (x : Int) m (by omega)
     rw [hz1]
     go_ret
     exact ⟨z, rfl, .inl hz2, Below.refl _ _⟩
   · have hlt' : ¬ (i : Int) < (n : Int) := by omega
     go_wp2_with fail
     obtain ⟨z, hz1, hz2⟩ := emod_nat ((i : Int) * 29 + 5) m (by omega)
     rw [hz1]
     go_ret
     exact ⟨z, rfl, .inl hz2, Below.refl _ _⟩
end Go.Proofs.YtlicffeicmoifaaGreatDoor
namespace Go.Proofs.YtlicffeicmoifaaGreatDoor
open Go.RowKit
set_option linter.unusedVariables false
set_option linter.unusedSimpArgs false
theorem play_small {fs : List NodeD} {l : List DoD} (ht : treeB fs = true) : smallNs (playB fs l).2.2 := by
 unfold playB
 split
 · next h => rw [Bool.and_eq_true] at h; exact rep_tsmall ht (doings_notes h.2)
 · exact ⟨by simp, fun d hd => by cases hd⟩
theorem goodDs_swap {l : List DoD} {k : Nat} (h : goodDs l) (hk : k + 1 < l.length) : goodDs (swapD l k) :=
 goodDs_set (goodDs_set h (h.2 _ (getD_memQ l (k + 1) hk))) (h.2 _ (getD_memQ l k (by omega)))
theorem swapD_len (l : List DoD) (k : Nat) : (swapD l k).length = l.length := by unfold swapD; rw [List.length_set, List.length_set]
set_option maxRecDepth 100000 in
set_option maxHeartbeats 40000000 in
theorem fnSw_walk (A : Option Addr) (n c : Nat) (A' : Option Addr) (n' c' : Nat) (w : World) (htab : tabT w) (h : BytesR w w.heap.size A n) (hn : n ≤ 9223372036854775807) (h' : BytesR w w.heap.size A' n') (hn' : n' ≤ 9223372036854775807) :
 Calls Tryz.prog 3 #[.slice A n c, .slice A' n' c'] w fun e w' => e = .returned (.bool true) ∧ Below w.heap.size w w' := by
 obtain ⟨j0, hbi, hy0, hy1, hy2⟩ := info_parts infoDoD
 have HK1 := Lib.hid (c2Big2_any A n c A' n' c' w hn hn')
 by_cases hbig : (decide (1048576 < n) || decide (1048576 < n')) = true
 · rw [hbig] at HK1
   clear h htab h'
   go_enter Tryz.func3, Tryz.ntmps3
   go_wp2_with fail
   refine HK1.out.mono ?_
   rintro e w1 ⟨rfl, rfl⟩
   go_wp2_with fail
   go_ret
   exact ⟨rfl, Below.refl _ _⟩
 rw [Bool.not_eq_true] at hbig
 rw [hbig] at HK1
 have hn6 : n ≤ 1048576 := by simp at hbig; omega
 have HK2 := Lib.hid (DrawPlay_any A n c w h hn6)
 have HTB := Lib.hid htab
 have HMO : Hid (∀ W, Below w.heap.size w W → BytesR W W.heap.size A' n') := fun W hW => BytesR.laterS h' hW
 clear h htab h' hbig
 go_enter Tryz.func3, Tryz.ntmps3
 go_wp2_with fail
 refine HK1.out.mono ?_
 rintro e w1 ⟨rfl, rfl⟩
 go_wp2_with fail
 refine HK2.out.mono ?_
 rintro e w1 ⟨tv, fs, ov, l, rfl, hT, htr, hfi, hl7, hD, hnn, hgd, hb1⟩
 obtain ⟨A1, cap1, rfl, hcap1, hN⟩ := hT.reads
 obtain ⟨A3, cap3, rfl, hcap3, hL⟩ := hD.reads
 obtain ⟨hok, hce⟩ := goodDs_ok hgd
 have hl9 := hgd.1
 have hts := tree_small htr
 have hcl := fine_clean hfi
 obtain ⟨WX, hWX⟩ : ∃ WX, WX = w1.alloc (.cells #[.slice A1 fs.length cap1] 26) := ⟨_, rfl⟩
 have HBX : Hid (Below w1.heap.size w1 WX) := by subst hWX; exact Below.new _ _
 have HX0 : Hid (Blk WX w1.heap.size 26 #[.slice A1 fs.length cap1]) := by subst hWX; exact heap_alloc_new _ _
 have HS1 : Hid (∀ W', Below WX.heap.size WX W' → W'.cell? ⟨w1.heap.size, 0, none⟩ = some (.slice A1 fs.length cap1)) := fun W' hW => (HX0.out.later hW HX0.out.lt).at 0 rfl
 have HNX : Hid (∀ W, Below WX.heap.size WX W → Nodes W W.heap.size A1 fs.length fs) := fun W hW => hN.later (HBX.out.later hW)
 have HLX : Hid (∀ W, Below WX.heap.size WX W → Dos W W.heap.size A3 l.length l) := fun W hW => hL.later (HBX.out.later hW)
 have HBW : Hid (Below w.heap.size w WX) := hb1.later HBX.out
 have HTT : Hid (∀ W, Below WX.heap.size WX W → tabT W) := fun W hW => tab_later HTB.out (HBW.out.later hW)
 have HKI := Lib.hid (fun L m q ds W (hW : Below WX.heap.size WX W) (hDs : Dos W W.heap.size L m ds) (hg : goodDs ds) => PlayDoings_any A1 fs.length cap1 L m q fs ds W (HTT.out W hW) (HNX.out W hW) hts hcl hDs (goodDs_ok hg).1 (goodDs_ok hg).2)
 have HKS := Lib.hid (fun W (hW : Below WX.heap.size WX W) => specPlay_any A1 fs.length cap1 A3 l.length cap3 fs l W (HNX.out W hW) hcap1 hts hcl (HLX.out W hW) hok hce)
 have HSM := Lib.hid (fun ds => play_small (fs := fs) (l := ds) htr)
 have HPS := Lib.hid (fun k (hk : k + 1 < l.length) hc h0 => play_swap (fs := fs) (l := l) (k := k) hk (by omega) hc h0)
 have HGD := Lib.hid hgd
 have HOK := Lib.hid hok
 clear hN hL hT hD hb1 HTB hok hce htr hfi hgd hnn hcl hts
 have z0 := HS1.out _ (Below.refl _ _)
 go_wp2_with fail
 rw [← hWX]
 clear hWX
 refine (HKI.out A3 l.length cap3 l _ (Below.refl _ _) (HLX.out _ (Below.refl _ _)) HGD.out).mono ?_
 rintro e w2 ⟨xv, rfl, hx2, hb2⟩
 have HSL := Lib.hid (HSM.out l)
 have HPB : Hid (∀ k (hk : k + 1 < l.length), confB (l.getD k default).ev (l.getD (k + 1) default).ev = false → (playB fs l).1 = 0 → (playB fs (swapD l k)).1 = 0 ∧ (playB fs (swapD l k)).2.2 = (playB fs l).2.2) := fun k hk => HPS.out k hk
 clear HPS
 generalize hPL : playB fs l = PL at *
 obtain ⟨cd, at0, xs⟩ := PL
 dsimp only at hx2 HSL HPB
 obtain ⟨A8, cap8, rfl, _, hNx⟩ := hx2.reads
 have HB2 := Lib.hid hb2
 clear hb2 hx2 z0 hPL
 obtain ⟨WV, hWV⟩ : ∃ WV, WV = w2.alloc (.cells #[.slice A8 xs.length cap8] 26) := ⟨_, rfl⟩
 have HQV : Hid (Blk WV w2.heap.size 26 #[.slice A8 xs.length cap8]) := by subst hWV; exact heap_alloc_new _ _
 have HBV : Hid (Below WX.heap.size WX WV) := by subst hWV; exact HB2.out.later (Below.new _ _)
 have HNV : Hid (∀ W, Below WV.heap.size WV W → Nodes W W.heap.size A8 xs.length xs) := fun W hW => by
  have h1 : Nodes WV WV.heap.size A8 xs.length xs := by subst hWV; exact hNx.later (Below.new _ _)
  exact h1.later hW
 have HSV : Hid (∀ W', Below WV.heap.size WV W' → W'.cell? ⟨w2.heap.size, 0, none⟩ = some (.slice A8 xs.length cap8)) := fun W' hW => (HQV.out.later hW HQV.out.lt).at 0 rfl
 clear hNx
 have z0 := HS1.out _ HBV.out
 have hx12 : w1.heap.size < w2.heap.size := Nat.lt_of_lt_of_le HX0.out.lt HB2.out.size
 have z0' := HS1.out _ HB2.out
 go_wp2_with fail
 rw [← hWV]
 clear hWV z0'
 refine (HKS.out _ HBV.out).mono ?_
 rintro e w3 ⟨yv, rfl, hy3, hb3⟩
 dsimp only at hy3
 obtain ⟨A9, cap9, rfl, _, hNy⟩ := hy3.reads
 have HB3 := Lib.hid (HBV.out.later hb3)
 have HV3 := Lib.hid hb3
 clear hb3 hy3 z0 HKS
 obtain ⟨WY, hWY⟩ : ∃ WY, WY = w3.alloc (.cells #[.slice A9 xs.length cap9] 26) := ⟨_, rfl⟩
 have HQY : Hid (Blk WY w3.heap.size 26 #[.slice A9 xs.length cap9]) := by subst hWY; exact heap_alloc_new _ _
 have HBY : Hid (Below WV.heap.size WV WY) := by subst hWY; exact HV3.out.later (Below.new _ _)
 have HNY : Hid (Nodes WY WY.heap.size A9 xs.length xs) := by subst hWY; exact hNy.later (Below.new _ _)
 have HBYX : Hid (Below WX.heap.size WX WY) := HBV.out.later HBY.out
 have HKE := Lib.hid (specSameTree_any A8 A9 xs.length cap8 xs.length cap9 xs xs WY (HNV.out _ HBY.out) HNY.out HSL.out HSL.out)
 rw [show decide (xs = xs) = true from decide_eq_true rfl] at HKE
 have hx23 : w2.heap.size < w3.heap.size := Nat.lt_of_lt_of_le HQV.out.lt HV3.out.size
 have z0 := HS1.out _ HBYX.out
 have z1 := HSV.out _ HBY.out
 have z0' := HS1.out _ HB3.out
 have z1' := HSV.out _ HV3.out
 have y0 := HQY.out.cell 0
 have hcd : ((cd != cd) : Bool) = false := by simp
 simp at y0
 clear hNy HNY
 go_wp2_with fail
 rw [← hWY]
 clear hWY z0' z1'
 refine HKE.out.mono ?_
 rintro e w4 ⟨rfl, hb4⟩
 have HB4 := Lib.hid (HBYX.out.later hb4)
 have HV4 := Lib.hid (HBY.out.later hb4)
 clear hb4 z0 z1 y0 HKE HBYX
 by_cases hc0 : cd = 0
 case neg =>
  have hcn : (cd != (0 : Int)) = true := by simpa using hc0
  go_wp2_with fail
  go_ret
  exact ⟨rfl, HBW.out.later HB4.out⟩
 subst hc0
 by_cases hl2 : l.length < 2
 · have hl2' : (l.length : Int) < 2 := by omega
   go_wp2_with fail
   go_ret
   exact ⟨rfl, HBW.out.later HB4.out⟩
 have hl2' : ¬ (l.length : Int) < 2 := by omega
 have HKA := Lib.hid (c2At_any A' n' c' 0 ((l.length : Int) - 1) w4 (HMO.out _ (HBW.out.later HB4.out)) hn' (by omega) (by omega))
 have hwl : IntKind.i64.wrap ((l.length : Int) - 1) = (l.length : Int) - 1 := by rw [IntKind.wrap_i64]; omega
 clear hcd
 go_wp2_with fail
 refine HKA.out.mono ?_
 rintro e w5 ⟨k, rfl, hk, hb5⟩
 have hkl : k + 1 < l.length := by omega
 have HB5 := Lib.hid (HB4.out.later hb5)
 have HV5 := Lib.hid (HV4.out.later hb5)
 have HPB' := Lib.hid (HPB.out k hkl)
 have HGS := Lib.hid (goodDs_swap HGD.out hkl)
 have HSW : Hid (swapD l k = (l.set k (l.getD (k + 1) default)).set (k + 1) (l.getD k default)) := rfl
 have HSLn := Lib.hid (swapD_len l k)
 obtain ⟨b3, o3, Sa, ma, ca, rfl, hata⟩ := dos_at (HLX.out w5 HB5.out) (show k < l.length by omega)
 obtain ⟨b3', o3', Sb, mb, cb, he3, hatb⟩ := dos_at (HLX.out w5 HB5.out) hkl
 cases he3
 have hea := HOK.out.2 _ (getD_memQ l k (by omega))
 have heb := HOK.out.2 _ (getD_memQ l (k + 1) hkl)
 have HATA := Lib.hid hata
 have HATB := Lib.hid hatb
 have HKC := Lib.hid (fun W (hW : Below w5.heap.size w5 W) => Conf_any _ _ _ _ _ _ _ _ _ _ (l.getD k default).ev (l.getD (k + 1) default).ev W (HTT.out W (HB5.out.later hW)) (hata W hW).2 (hatb W hW).2 hea heb)
 have HKD := Lib.hid (fun W (hW : Below w5.heap.size w5 W) => specConf_any _ _ _ _ _ _ _ _ _ _ (l.getD k default).ev (l.getD (k + 1) default).ev W (hata W hW).2 (hatb W hW).2 hea heb)
 clear hata hatb hea heb hk hb5 HKA HPB HMO hwl
 generalize swapD l k = sl at *
 generalize hda : l.getD k default = da at *
 generalize hdb : l.getD (k + 1) default = db at *
 have HDA := Lib.hid hda
 have HDB := Lib.hid hdb
 clear hda hdb
 generalize confB da.ev db.ev = cf at *
 have HSAB : Hid (∀ W', Below w5.heap.size w5 W' → (W'.cell? ⟨b3, o3 + k * 6 + 1, none⟩ = some (.int .i64 da.ev.kind) ∧ W'.cell? ⟨b3, o3 + k * 6 + 2, none⟩ = some (.string da.ev.name) ∧ W'.cell? ⟨b3, o3 + k * 6 + 3, none⟩ = some (.slice Sa ma ca) ∧ W'.cell? ⟨b3, o3 + k * 6 + 4, none⟩ = some (.string da.ev.val) ∧ W'.cell? ⟨b3, o3 + k * 6 + 5, none⟩ = some (.int .i64 da.ev.n) ∧ W'.cell? ⟨b3, o3 + (k + 1) * 6 + 1, none⟩ = some (.int .i64 db.ev.kind) ∧ W'.cell? ⟨b3, o3 + (k + 1) * 6 + 2, none⟩ = some (.string db.ev.name) ∧ W'.cell? ⟨b3, o3 + (k + 1) * 6 + 3, none⟩ = some (.slice Sb mb cb) ∧ W'.cell? ⟨b3, o3 + (k + 1) * 6 + 4, none⟩ = some (.string db.ev.val) ∧ W'.cell? ⟨b3, o3 + (k + 1) * 6 + 5, none⟩ = some (.int .i64 db.ev.n))) := fun W' hW => by
  obtain ⟨a0, a1, a2, a3, a4, a5⟩ := (HATA.out _ hW).1
  obtain ⟨b0, b1, b2, b3_, b4, b5⟩ := (HATB.out _ hW).1
  exact ⟨a1, a2, a3, a4, a5, b1, b2, b3_, b4, b5⟩
 have hkk : (k : Int) < (l.length : Int) := by omega
 have hkk1 : (k : Int) + 1 < (l.length : Int) := by omega
 have hwk : IntKind.i64.wrap ((k : Int) + 1) = (k : Int) + 1 := by rw [IntKind.wrap_i64]; omega
 have htk : ((k : Int) + 1).toNat = k + 1 := by omega
 have h0k : (0 : Int) ≤ (k : Int) + 1 := by omega
 cases cf
 case true =>
  go_wp2_with fail
  go_region_held3 (fun W' => (W'.cell? ⟨b3, o3 + k * 6 + 1, none⟩ = some (.int .i64 da.ev.kind) ∧ W'.cell? ⟨b3, o3 + k * 6 + 2, none⟩ = some (.string da.ev.name) ∧ W'.cell? ⟨b3, o3 + k * 6 + 3, none⟩ = some (.slice Sa ma ca) ∧ W'.cell? ⟨b3, o3 + k * 6 + 4, none⟩ = some (.string da.ev.val) ∧ W'.cell? ⟨b3, o3 + k * 6 + 5, none⟩ = some (.int .i64 da.ev.n) ∧ W'.cell? ⟨b3, o3 + (k + 1) * 6 + 1, none⟩ = some (.int .i64 db.ev.kind) ∧ W'.cell? ⟨b3, o3 + (k + 1) * 6 + 2, none⟩ = some (.string db.ev.name) ∧ W'.cell? ⟨b3, o3 + (k + 1) * 6 + 3, none⟩ = some (.slice Sb mb cb) ∧ W'.cell? ⟨b3, o3 + (k + 1) * 6 + 4, none⟩ = some (.string db.ev.val) ∧ W'.cell? ⟨b3, o3 + (k + 1) * 6 + 5, none⟩ = some (.int .i64 db.ev.n)))
   (first | exact HSAB.out _ (Below.refl _ _).drew | exact HSAB.out _ HB6.out)
   (first
     | (go_at_call 13; refine (HKC.out _ (Below.refl _ _).drew).mono ?_; rintro e w6 ⟨rfl, hb6'⟩; have HB6 := Lib.hid (undrew hb6'); clear hb6'))
  clear HKC
  go_wp2_with fail
  go_region_held3 (fun W' => (W'.cell? ⟨b3, o3 + k * 6 + 1, none⟩ = some (.int .i64 da.ev.kind) ∧ W'.cell? ⟨b3, o3 + k * 6 + 2, none⟩ = some (.string da.ev.name) ∧ W'.cell? ⟨b3, o3 + k * 6 + 3, none⟩ = some (.slice Sa ma ca) ∧ W'.cell? ⟨b3, o3 + k * 6 + 4, none⟩ = some (.string da.ev.val) ∧ W'.cell? ⟨b3, o3 + k * 6 + 5, none⟩ = some (.int .i64 da.ev.n) ∧ W'.cell? ⟨b3, o3 + (k + 1) * 6 + 1, none⟩ = some (.int .i64 db.ev.kind) ∧ W'.cell? ⟨b3, o3 + (k + 1) * 6 + 2, none⟩ = some (.string db.ev.name) ∧ W'.cell? ⟨b3, o3 + (k + 1) * 6 + 3, none⟩ = some (.slice Sb mb cb) ∧ W'.cell? ⟨b3, o3 + (k + 1) * 6 + 4, none⟩ = some (.string db.ev.val) ∧ W'.cell? ⟨b3, o3 + (k + 1) * 6 + 5, none⟩ = some (.int .i64 db.ev.n)))
   (first | exact HSAB.out _ HB6.out.drew | exact HSAB.out _ HB7.out)
   (first
     | (go_at_call 14; refine (HKD.out _ (by exact HB6.out.drew)).mono ?_; rintro e w7 ⟨rfl, hb7'⟩; have HB7 := Lib.hid (HB6.out.later (undrew hb7')); clear hb7'))
  all_goals (try go_wp2_with fail)
  all_goals go_ret
  all_goals exact ⟨rfl, HBW.out.later (HB5.out.later HB7.out)⟩
 go_wp2_with fail
 go_region_held3 (fun W' => (W'.cell? ⟨b3, o3 + k * 6 + 1, none⟩ = some (.int .i64 da.ev.kind) ∧ W'.cell? ⟨b3, o3 + k * 6 + 2, none⟩ = some (.string da.ev.name) ∧ W'.cell? ⟨b3, o3 + k * 6 + 3, none⟩ = some (.slice Sa ma ca) ∧ W'.cell? ⟨b3, o3 + k * 6 + 4, none⟩ = some (.string da.ev.val) ∧ W'.cell? ⟨b3, o3 + k * 6 + 5, none⟩ = some (.int .i64 da.ev.n) ∧ W'.cell? ⟨b3, o3 + (k + 1) * 6 + 1, none⟩ = some (.int .i64 db.ev.kind) ∧ W'.cell? ⟨b3, o3 + (k + 1) * 6 + 2, none⟩ = some (.string db.ev.name) ∧ W'.cell? ⟨b3, o3 + (k + 1) * 6 + 3, none⟩ = some (.slice Sb mb cb) ∧ W'.cell? ⟨b3, o3 + (k + 1) * 6 + 4, none⟩ = some (.string db.ev.val) ∧ W'.cell? ⟨b3, o3 + (k + 1) * 6 + 5, none⟩ = some (.int .i64 db.ev.n)))
  (first | exact HSAB.out _ (Below.refl _ _).drew | exact HSAB.out _ HB6.out)
  (first
    | (go_at_call 13; refine (HKC.out _ (Below.refl _ _).drew).mono ?_; rintro e w6 ⟨rfl, hb6'⟩; have HB6 := Lib.hid (undrew hb6'); clear hb6'))
 clear HKC
 have HP := HPB'.out (by first | rfl | trivial) (by first | rfl | trivial)
 obtain ⟨hp1, hp2⟩ := HP
 have HPP := Lib.hid (And.intro hp1 hp2)
 have HB6X := Lib.hid (HB5.out.later HB6.out)
 have HV6 := Lib.hid (HV5.out.later HB6.out)
 obtain ⟨cs, hcs, hrd⟩ := dos_gather (HLX.out w6 HB6X.out)
 have HCS := Lib.hid hcs
 have HRD := Lib.hid hrd
 have HONE : Hid (∀ u ∈ cs, u.oneCell' = true) := CellsG.all (fun c d hc u hu => by
  obtain ⟨c0, c1, c2, c3, c4, c5, rfl, rfl, rfl, rfl, ⟨S, m, q, rfl, _⟩, rfl, rfl⟩ := hc
  simp only [List.mem_cons, List.not_mem_nil, or_false] at hu
  rcases hu with rfl | rfl | rfl | rfl | rfl | rfl <;> rfl) hcs
 have HRA : Hid (doC w6 [.int .i64 da.job, .int .i64 da.ev.kind, .string da.ev.name, .slice Sa ma ca, .string da.ev.val, .int .i64 da.ev.n] da) := ⟨_, _, _, _, _, _, rfl, rfl, (HATA.out _ HB6.out).2⟩
 have HRB : Hid (doC w6 [.int .i64 db.job, .int .i64 db.ev.kind, .string db.ev.name, .slice Sb mb cb, .string db.ev.val, .int .i64 db.ev.n] db) := ⟨_, _, _, _, _, _, rfl, rfl, (HATB.out _ HB6.out).2⟩
 clear hcs hrd HPB' hp1 hp2 HKD
 generalize hnl : l.length = nl at *
 have HNL := Lib.hid hnl
 clear hnl
 have hw6z : w1.heap.size < w6.heap.size := Nat.lt_of_lt_of_le HX0.out.lt HB6X.out.size
 have hw6y : w2.heap.size < w6.heap.size := Nat.lt_of_lt_of_le HQV.out.lt HV6.out.size
 go_wp2_with (at_builtin; refine wpList_append_any _ rfl (.tmp 86) (.tmp 87) 27 rfl w6.heap.size 39 j0 _ 6 80 Tryz.underlying27 hbi hy0 hy1 hy2 rfl (by decide) _ 0 [] rfl (World.ownsRow_lit _ _ 0 (Nat.le_refl _) (by omega) rfl) w6.heap.size (some ⟨b3, o3, none⟩) nl cap3 cs rfl (HRD.out.alloc (Nat.le_refl _) _) HONE.out ?c1 ?c2 ?c3 ?_)
 case c1 => unfold maxLen; omega
 case c2 => omega
 case c3 => simp
 intro v7 w7 ho7 hg7 _
 have HB7 := Lib.hid (below_own (w0 := w6) (size := 6) (n := 0) (xs := []) (Below.new _ _) (World.ownsRow_lit _ _ 0 (Nat.le_refl _) (by omega) rfl) (Nat.le_refl _) hg7)
 obtain ⟨GA, cap7, rfl, hc7, _, hGA⟩ := Own.own_slice ho7
 obtain ⟨g, rfl, hg7w, hg6⟩ := hGA (by omega)
 have HD7 : Hid (∀ j, j < nl → ∀ t, t < 6 → ∀ u, cs[j * 6 + t]? = some u → w7.cell? ⟨g, j * 6 + t, none⟩ = some u) := fun j hj t ht u hu => Own.own_cell ho7 _ _ (by omega) hu
 have HFZ : Hid (∀ i, w7.frozen? ⟨g, i, none⟩ = false) := fun i => ho7.frozenAt i
 have HO7 := Lib.hid ho7
 clear ho7 hg7 hGA
 obtain ⟨xa, hla, ⟨x0, x1, x2, x3, x4, x5, rfl, hra⟩, hca⟩ := CellsG.at k HCS.out (by rw [HNL.out]; omega)
 obtain ⟨xb, hlb, ⟨y0, y1, y2, y3, y4, y5, rfl, hrb⟩, hcb⟩ := CellsG.at (k + 1) HCS.out (by rw [HNL.out]; omega)
 rw [HDA.out] at hra
 rw [HDB.out] at hrb
 have HRA := Lib.hid (show doC w6 _ da from ⟨_, _, _, _, _, _, rfl, hra⟩)
 have HRB := Lib.hid (show doC w6 _ db from ⟨_, _, _, _, _, _, rfl, hrb⟩)
 obtain ⟨rfl, rfl, rfl, ⟨S1, m1, q1, rfl, _, _⟩, rfl, rfl⟩ := hra
 obtain ⟨rfl, rfl, rfl, ⟨S2, m2, q2, rfl, _, _⟩, rfl, rfl⟩ := hrb
 have a0 : w7.cell? ⟨g, k * 6, none⟩ = some (.int .i64 da.job) := HD7.out k (by omega) 0 (by omega) _ (hca 0 (by omega))
 have a1 := HD7.out k (by omega) 1 (by omega) _ (hca 1 (by omega))
 have a2 := HD7.out k (by omega) 2 (by omega) _ (hca 2 (by omega))
 have a3 := HD7.out k (by omega) 3 (by omega) _ (hca 3 (by omega))
 have a4 := HD7.out k (by omega) 4 (by omega) _ (hca 4 (by omega))
 have a5 := HD7.out k (by omega) 5 (by omega) _ (hca 5 (by omega))
 have b0 : w7.cell? ⟨g, (k + 1) * 6, none⟩ = some (.int .i64 db.job) := HD7.out (k + 1) (by omega) 0 (by omega) _ (hcb 0 (by omega))
 have b1 := HD7.out (k + 1) (by omega) 1 (by omega) _ (hcb 1 (by omega))
 have b2 := HD7.out (k + 1) (by omega) 2 (by omega) _ (hcb 2 (by omega))
 have b3_ := HD7.out (k + 1) (by omega) 3 (by omega) _ (hcb 3 (by omega))
 have b4 := HD7.out (k + 1) (by omega) 4 (by omega) _ (hcb 4 (by omega))
 have b5 := HD7.out (k + 1) (by omega) 5 (by omega) _ (hcb 5 (by omega))
 have f0 := HFZ.out (k * 6)
 have f1 := HFZ.out (k * 6 + 1)
 have f2 := HFZ.out (k * 6 + 2)
 have f3 := HFZ.out (k * 6 + 3)
 have f4 := HFZ.out (k * 6 + 4)
 have f5 := HFZ.out (k * 6 + 5)
 have g0 := HFZ.out ((k + 1) * 6)
 have g1 := HFZ.out ((k + 1) * 6 + 1)
 have g2 := HFZ.out ((k + 1) * 6 + 2)
 have g3 := HFZ.out ((k + 1) * 6 + 3)
 have g4 := HFZ.out ((k + 1) * 6 + 4)
 have g5 := HFZ.out ((k + 1) * 6 + 5)
 clear hca hcb HD7 HFZ
 have z0 := HS1.out w7 (HB6X.out.later HB7.out)
 have hne1 : ¬ w7.heap.size = g := by omega
 have hne2 : ¬ g = w7.heap.size := by omega
 have hne3 : ¬ w1.heap.size = g := by omega
 have hne4 : ¬ g = w1.heap.size := by omega
 have hne5 : ¬ w1.heap.size = w7.heap.size := by omega
 have hne6 : ¬ w7.heap.size = w1.heap.size := by omega
 go_upto_region 17 with fail
 obtain ⟨cs1, hr1, hc1⟩ := row_put6 HO7.out HCS.out HNL.out (show k < nl by omega) HRB.out
 obtain ⟨cs2, hr2, hc2⟩ := row_put6 (k := k + 1) hr1 hc1 (by rw [List.length_set]; exact HNL.out) (show k + 1 < nl by omega) HRA.out
 obtain ⟨WZ, hWZ⟩ : ∃ WZ, WZ = (set6 (set6 w7 g (k * 6) (.int .i64 db.job) (.int .i64 db.ev.kind) (.string db.ev.name) (.slice S2 m2 q2) (.string db.ev.val) (.int .i64 db.ev.n)) g ((k + 1) * 6) (.int .i64 da.job) (.int .i64 da.ev.kind) (.string da.ev.name) (.slice S1 m1 q1) (.string da.ev.val) (.int .i64 da.ev.n)).alloc (.cells #[.int .i64 da.job, .int .i64 da.ev.kind, .string da.ev.name, .slice S1 m1 q1, .string da.ev.val, .int .i64 da.ev.n] 39) := ⟨_, rfl⟩
 have HBZ : Hid (Below w6.heap.size w6 WZ) := by subst hWZ; exact (set6_below (set6_below HB7.out hg6) hg6).later (Below.new _ _)
 have HDZ : Hid (Dos WZ WZ.heap.size (some ⟨g, 0, none⟩) nl sl) := by
  have h1 : WZ.ownsRow w6.heap.size 39 6 (.slice (some ⟨g, 0, none⟩) nl cap7) nl cs2 := by subst hWZ; exact Own.own_later hr2 (Below.new _ _)
  obtain ⟨A', cap', e', _, hD⟩ := dos_of_row h1 HSLn.out (by rw [HSW.out]; exact hc2) HBZ.out
  injection e' with e1 e2 e3
  rw [e1]
  exact hD
 clear hr1 hc1 hr2 hc2 HO7 HCS HRA HRB a0 a1 a2 a3 a4 a5 b0 b1 b2 b3_ b4 b5 f0 f1 f2 f3 f4 f5 g0 g1 g2 g3 g4 g5 z0
 unfold set6 at hWZ
 have HBX9 : Hid (Below WX.heap.size WX WZ) := HB6X.out.later HBZ.out
 have HVZ : Hid (Below WV.heap.size WV WZ) := HV6.out.later HBZ.out
 have z0 := HS1.out WZ HBX9.out
 have HK9 := Lib.hid (HKI.out (some ⟨g, 0, none⟩) nl cap7 sl WZ HBX9.out HDZ.out HGS.out)
 clear HKI HDZ HBZ
 rw [← hWZ]
 clear hWZ
 go_wp2_with fail
 refine HK9.out.mono ?_
 rintro e w9 ⟨zv, rfl, hz9, hb9⟩
 generalize playB fs sl = P2 at *
 obtain ⟨cd2, at2, ys⟩ := P2
 obtain ⟨hp1, hp2⟩ := HPP.out
 dsimp only at hp1 hp2 hz9
 subst hp1 hp2
 obtain ⟨A10, cap10, rfl, _, hNz⟩ := hz9.reads
 have HV9 := Lib.hid (HVZ.out.later hb9)
 have HX9 := Lib.hid (HBX9.out.later hb9)
 clear hb9 hz9 z0 HK9 HPP
 obtain ⟨WS, hWS⟩ : ∃ WS, WS = w9.alloc (.cells #[.slice A10 ys.length cap10] 26) := ⟨_, rfl⟩
 have HQS : Hid (Blk WS w9.heap.size 26 #[.slice A10 ys.length cap10]) := by subst hWS; exact heap_alloc_new _ _
 have HBS : Hid (Below WV.heap.size WV WS) := by subst hWS; exact HV9.out.later (Below.new _ _)
 have HBSX : Hid (Below WX.heap.size WX WS) := by subst hWS; exact HX9.out.later (Below.new _ _)
 have HNS : Hid (Nodes WS WS.heap.size A10 ys.length ys) := by subst hWS; exact hNz.later (Below.new _ _)
 have HKE2 := Lib.hid (specSameTree_any A10 A8 ys.length cap10 ys.length cap8 ys ys WS HNS.out (HNV.out _ HBS.out) HSL.out HSL.out)
 rw [show decide (ys = ys) = true from decide_eq_true rfl] at HKE2
 have z1 := HSV.out _ HBS.out
 have z1' := HSV.out _ HV9.out
 have hx29 : w2.heap.size < w9.heap.size := Nat.lt_of_lt_of_le HQV.out.lt HV9.out.size
 have y0 := HQS.out.cell 0
 simp at y0
 clear hNz HNS
 go_wp2_with fail
 rw [← hWS]
 clear hWS
 refine HKE2.out.mono ?_
 rintro e w10 ⟨rfl, hb10⟩
 have HB10 := Lib.hid (HBSX.out.later hb10)
 clear hb10 z1 z1' y0 HKE2
 go_wp2_with fail
 go_ret
 exact ⟨rfl, HBW.out.later HB10.out⟩
end Go.Proofs.YtlicffeicmoifaaGreatDoor
