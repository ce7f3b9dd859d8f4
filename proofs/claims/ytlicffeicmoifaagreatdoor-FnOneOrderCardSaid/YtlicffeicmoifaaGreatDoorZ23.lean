import Derived.Test.YtlicffeicmoifaaGreatDoorZ20
import Derived.Test.YtlicffeicmoifaaGreatDoorZ16
import Derived.Test.YtlicffeicmoifaaGreatDoorZ22
set_option linter.unusedSimpArgs false
namespace Go.Proofs.YtlicffeicmoifaaGreatDoor
open Go.RowKit
set_option linter.unusedVariables false
theorem specSubOk_any (s : ByteArray) (w : World) (hs : s.size ≤ 1048576) :
 Calls Tryz.prog 112 #[.string s] w fun e w' => e = .returned (.bool (subB s)) ∧ w = w' := by
 have HK := Lib.hid (l02Sub_any s w hs)
 generalize subB s = R at *
 go_enter Tryz.func112, Tryz.ntmps112
 go_wp2_with fail
 refine HK.out.mono ?_
 rintro e w1 ⟨rfl, rfl⟩
 go_wp2_with fail
 go_ret
 exact ⟨rfl, rfl⟩
theorem level_parts {ss : List ByteArray} (h : levelB ss = true) : 0 < ss.length ∧ ss.length ≤ 4 ∧ subsB (ss.take (ss.length - 1)) = true ∧ (lastS ss = ⟨#[]⟩ ∨ subB (lastS ss) = true) := by
 unfold levelB at h
 simpa only [Bool.and_eq_true, Bool.or_eq_true, decide_eq_true_eq] using h
set_option maxRecDepth 100000 in
set_option maxHeartbeats 4000000 in
theorem l03Level_true (S : Option Addr) (m q : Nat) (ss : List ByteArray) (w : World) (h : Strs w w.heap.size S m ss) (hmq : m ≤ q) (hl : levelB ss = true) (hz : ∀ s ∈ ss, s.size ≤ 1048576) :
 Calls Tryz.prog 251 #[.slice S m q] w fun e w' => e = .returned (.bool true) ∧ Below w.heap.size w w' := by
 obtain ⟨h1, h2, h3, h4⟩ := level_parts hl
 rw [h.1] at h1 h2
 obtain ⟨m, rfl⟩ : ∃ k, m = k + 1 := ⟨m - 1, by omega⟩
 have hlen := h.1
 rw [hlen, Nat.add_sub_cancel] at h3
 have hls : lastS ss = ss.getD m ByteArray.empty := by unfold lastS; rw [hlen, Nat.add_sub_cancel]
 obtain ⟨sb, so, rfl, hsb, hsc⟩ := h.2 (by omega)
 have k0 := hsc m (by omega)
 rw [← hls] at k0
 have HK1 := Lib.hid (fun W cq (hW : Below w.heap.size w W) => specSubsOk_any (some ⟨sb, so, none⟩) m cq (ss.take m) W ((h.later hW).take m (by omega)) (by omega) (fun s hs => hz s (List.mem_of_mem_take hs)))
 rw [h3] at HK1
 have HK2 := Lib.hid (fun W => specSubOk_any (lastS ss) W (by rw [hls]; exact hz _ (Own.mem_of_getD ss m _ (by omega))))
 have hmqI : (m : Int) ≤ (q : Int) := by omega
 have hm0I : (0 : Int) ≤ (m : Int) := by omega
 have hm4 : m ≤ 3 := by omega
 have hq0 : ¬ q = 0 := by omega
 have hwm : IntKind.i64.wrap ((m : Int) + 1 - 1) = (m : Int) := by rw [IntKind.wrap_i64]; omega
 have hd1 : decide (m + 1 ≤ 4) = true := decide_eq_true (by omega)
 clear h hl hz hsc hls h3 h2 h1
 generalize lastS ss = L at *
 go_enter Tryz.func251, Tryz.ntmps251
 by_cases hL : L = ⟨#[]⟩
 · have el : L.toList.isEmpty = true := by rw [hL, toList_data]; rfl
   clear hL h4
   go_wp2_with fail
   refine (HK1.out _ _ (by first | exact Below.refl _ _ | exact below_drewN (Below.refl _ _) _)).mono ?_
   rintro e w1 ⟨rfl, rfl⟩
   go_wp2_with fail
   go_ret
   exact ⟨rfl, by first | exact Below.refl _ _ | exact below_drewN (Below.refl _ _) _⟩
 · have el := str_emp hL
   have hs : subB L = true := h4.resolve_left hL
   rw [hs] at HK2
   clear hL h4 hs
   go_wp2_with fail
   refine (HK1.out _ _ (by first | exact Below.refl _ _ | exact below_drewN (Below.refl _ _) _)).mono ?_
   rintro e w1 ⟨rfl, rfl⟩
   go_wp2_with fail
   refine (HK2.out _).mono ?_
   rintro e w2 ⟨rfl, rfl⟩
   go_wp2_with fail
   go_ret
   exact ⟨rfl, by first | exact Below.refl _ _ | exact below_drewN (Below.refl _ _) _⟩
set_option maxRecDepth 100000 in
set_option maxHeartbeats 4000000 in
theorem OrderOf_true (A : Option Addr) (n c : Nat) (fs : List NodeD) (nm : ByteArray) (S : Option Addr) (m q : Nat) (ss : List ByteArray) (back : Bool) (w : World) (h : Nodes w w.heap.size A n fs) (ht : treeB fs = true) (hS : Strs w w.heap.size S m ss) (hmq : m ≤ q) (hnm : nameB nm = true) (hns : nm.size ≤ 1048576) (hl : levelB ss = true) (hz : ∀ s ∈ ss, s.size ≤ 1048576) :
 Calls Tryz.prog 190 #[.agg #[.slice A n c], .string nm, .slice S m q, .bool back] w fun e w' => e = .returned (.string (ordF nm ss back fs)) ∧ Below w.heap.size w w' := by
 obtain ⟨hl1, hl2, _, _⟩ := level_parts hl
 rw [hS.1] at hl1 hl2
 have HK1 := Lib.hid (fun W (hW : Below w.heap.size w W) => specTreeOk_any A n c fs W (h.later hW) (tree_small ht))
 have HK2 := Lib.hid (fun W => specNameOk_any nm W hns)
 have HK3 := Lib.hid (fun W (hW : Below w.heap.size w W) => l03Level_true S m q ss W (hS.later hW) hmq hl hz)
 obtain ⟨m, rfl⟩ : ∃ k, m = k + 1 := ⟨m - 1, by omega⟩
 have HK4 := Lib.hid (fun W (hW : Below w.heap.size w W) => l03Order_any A n c fs nm S m q ss back W (h.later hW) (tree_small ht) (hS.later hW) hmq (by omega) hz)
 rw [ht] at HK1
 rw [hnm] at HK2
 clear h ht hS hnm hl hz
 generalize ordF nm ss back fs = R at *
 have HBX : Hid (Below w.heap.size w (w.alloc (.cells #[.slice A n c] 26))) := Below.new _ _
 go_enter Tryz.func190, Tryz.ntmps190
 go_wp2_with fail
 refine (HK1.out _ HBX.out).mono ?_
 rintro e w1 ⟨rfl, hb1⟩
 have HB1 := Lib.hid (HBX.out.later hb1)
 have p0 := (Blk.later (heap_alloc_new w (.cells #[.slice A n c] 26)) hb1 (by simp)).cell 0
 simp at p0
 clear hb1
 go_wp2_with fail
 refine (HK2.out _).mono ?_
 rintro e w2 ⟨rfl, rfl⟩
 go_wp2_with fail
 refine (HK3.out _ HB1.out).mono ?_
 rintro e w3 ⟨rfl, hb3⟩
 have HB3 := Lib.hid (HB1.out.later hb3)
 have p3 := cell_later hb3 p0
 clear hb3 p0
 go_wp2_with fail
 refine (HK4.out _ HB3.out).mono ?_
 rintro e w4 ⟨rfl, hb4⟩
 have HB4 := Lib.hid (HB3.out.later hb4)
 clear hb4
 go_wp2_with fail
 go_ret
 exact ⟨rfl, HB4.out⟩
set_option maxRecDepth 100000 in
set_option maxHeartbeats 4000000 in
theorem GetNode_true (A : Option Addr) (n c : Nat) (fs : List NodeD) (nm : ByteArray) (S : Option Addr) (m q : Nat) (ss : List ByteArray) (w : World) (h : Nodes w w.heap.size A n fs) (ht : treeB fs = true) (hS : Strs w w.heap.size S m ss) (hm : m ≤ 1048576) (hth : thingB nm ss = true) (hns : nm.size ≤ 1048576) (hz : ∀ s ∈ ss, s.size ≤ 1048576) :
 Calls Tryz.prog 188 #[.agg #[.slice A n c], .string nm, .slice S m q] w fun e w' => e = .returned (.tuple #[.string (getF fs nm ss), .bool (hasN fs nm ss)]) ∧ Below w.heap.size w w' := by
 have HK1 := Lib.hid (fun W (hW : Below w.heap.size w W) => specTreeOk_any A n c fs W (h.later hW) (tree_small ht))
 have HK2 := Lib.hid (fun W (hW : Below w.heap.size w W) => l03Place_any nm S m q ss W hns (hS.later hW) hm hz)
 have HK3 := Lib.hid (fun W (hW : Below w.heap.size w W) => l03At_any A n c fs nm S m q ss W (h.later hW) (tree_small ht) (hS.later hW) hm hz)
 have HN := Lib.hid h
 have hlt : hasN fs nm ss = true → atN fs nm ss < n := fun hh => by rw [← h.1]; exact has_ltG hh
 have hn : n ≤ 120 := by rw [← h.1]; exact (tree_iff.1 ht).1
 have HG : Hid (getF fs nm ss = if hasN fs nm ss = true then (fs.getD (atN fs nm ss) default).val else ⟨#[]⟩) := rfl
 rw [ht] at HK1
 rw [hth] at HK2
 clear h ht hS hth hz
 generalize getF fs nm ss = R at *
 generalize atN fs nm ss = x at *
 generalize hasN fs nm ss = y at *
 have HBX : Hid (Below w.heap.size w (w.alloc (.cells #[.slice A n c] 26))) := Below.new _ _
 go_enter Tryz.func188, Tryz.ntmps188
 go_wp2_with fail
 refine (HK1.out _ HBX.out).mono ?_
 rintro e w1 ⟨rfl, hb1⟩
 have HB1 := Lib.hid (HBX.out.later hb1)
 have p0 := (Blk.later (heap_alloc_new w (.cells #[.slice A n c] 26)) hb1 (by simp)).cell 0
 simp at p0
 clear hb1
 go_wp2_with fail
 refine (HK2.out _ HB1.out).mono ?_
 rintro e w2 ⟨rfl, rfl⟩
 go_wp2_with fail
 refine (HK3.out _ HB1.out).mono ?_
 rintro e w3 ⟨rfl, hb3⟩
 have HB3 := Lib.hid (HB1.out.later hb3)
 have p3 := cell_later hb3 p0
 clear hb3 p0
 cases y
 · have HE : Hid (R = ⟨#[]⟩) := HG.out
   go_wp2_with fail
   go_ret2
   exact ⟨by rw [HE.out]; rfl, HB3.out⟩
 · have hxn := hlt rfl
   have HE : Hid (R = (fs.getD x default).val) := HG.out
   obtain ⟨bb, o, rfl, hbB, hc⟩ := (HN.out.later HB3.out).2 (by omega)
   obtain ⟨c0, c1, c2, k0, k1, k2, hr⟩ := hc x hxn
   obtain ⟨_, _, rfl⟩ := hr
   clear hc hlt k0 k1
   generalize (fs.getD x default).val = vl at *
   go_wp2_with fail
   first
     | (go_ret2
        exact ⟨by rw [HE.out]; rfl, HB3.out⟩)
     | (go_quiet (fail)
        go_wp2_with fail
        go_ret2
        exact ⟨by rw [HE.out]; rfl, below_drewN HB3.out _⟩)
end Go.Proofs.YtlicffeicmoifaaGreatDoor
