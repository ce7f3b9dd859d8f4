import Derived.Test.YtlicffeicmoifaaGreatDoorZ13
import Derived.Test.YtlicffeicmoifaaGreatDoorZ05
import Derived.Test.YtlicffeicmoifaaGreatDoorZ10
import Derived.Test.YtlicffeicmoifaaGreatDoorZ11
import Derived.Test.YtlicffeicmoifaaGreatDoorZ00
import Derived.Test.YtlicffeicmoifaaGreatDoorZ09
import Derived.Test.YtlicffeicmoifaaGreatDoorZ07
import Derived.Test.YtlicffeicmoifaaGreatDoorZ08
import Derived.Deep.RegionHeld3
import Derived.Lib.AppendIntMem
import Derived.Lib.Join
import Derived.Lib.OwnBridge
import Derived.Lib.SplitLaws
import Derived.Lib.TrimUEq
import Derived.LoopIn
import Derived.LoopNIn
import Derived.OwnWalkIn
import Derived.RangeFuncBox
import Derived.RangeFuncLeaves
import Derived.Shelf.Abstract
import Derived.Shelf.GgClosure.StringsIndexFuncTop
import Derived.TacticsInMore
import Derived.WalkKit
set_option linter.unusedSimpArgs false
namespace Go.Proofs.YtlicffeicmoifaaGreatDoor
open Go.RowKit
set_option linter.unusedVariables false
set_option maxRecDepth 100000 in
set_option maxHeartbeats 2000000 in
theorem specReadsOf_any (c0 c1 c2 c3 c4 : Value) (d : EvD) (w : World) (h : EvR w w.heap.size c0 c1 c2 c3 c4 d) :
 Calls Tryz.prog 99 #[.agg #[c0, c1, c2, c3, c4]] w fun e w' => e = .returned (.bool (readsB d)) ∧ Below w.heap.size w w' := by
 obtain ⟨rfl, rfl, ⟨S, m, q, rfl, hs, hmq⟩, rfl, rfl⟩ := h
 have HR : Hid (readsB d = (decide (d.kind = 1) || (decide (d.kind = 4) || (decide (d.kind = 5) || decide (d.kind = 6))))) := rfl
 clear hs
 generalize readsB d = R at *
 generalize d.name = nm at *
 generalize d.val = vl at *
 generalize d.kind = kd at *
 generalize d.n = nn at *
 go_enter Tryz.func99, Tryz.ntmps99
 by_cases h1 : kd = 1
 · subst h1
   have HE : Hid (R = true) := by unfold Hid; rw [HR.out]; simp
   go_wp2_with fail
   go_ret
   exact ⟨ret_bool HE.out.symm, Below.new _ _⟩
 have hb1 : (kd == (1 : Int)) = false := beq_eq_false_iff_ne.2 h1
 by_cases h4 : kd = 4
 · subst h4
   have HE : Hid (R = true) := by unfold Hid; rw [HR.out]; simp
   go_wp2_with fail
   go_ret
   exact ⟨ret_bool HE.out.symm, Below.new _ _⟩
 have hb4 : (kd == (4 : Int)) = false := beq_eq_false_iff_ne.2 h4
 by_cases h5 : kd = 5
 · subst h5
   have HE : Hid (R = true) := by unfold Hid; rw [HR.out]; simp
   go_wp2_with fail
   go_ret
   exact ⟨ret_bool HE.out.symm, Below.new _ _⟩
 have hb5 : (kd == (5 : Int)) = false := beq_eq_false_iff_ne.2 h5
 by_cases h6 : kd = 6
 · subst h6
   have HE : Hid (R = true) := by unfold Hid; rw [HR.out]; simp
   go_wp2_with fail
   go_ret
   exact ⟨ret_bool HE.out.symm, Below.new _ _⟩
 have hb6 : (kd == (6 : Int)) = false := beq_eq_false_iff_ne.2 h6
 have HE : Hid (R = false) := by unfold Hid; rw [HR.out]; simp [h1, h4, h5, h6]
 go_wp2_with fail
 go_ret
 exact ⟨ret_bool HE.out.symm, Below.new _ _⟩
set_option maxRecDepth 100000 in
set_option maxHeartbeats 2000000 in
theorem specTurnsOf_any (c0 c1 c2 c3 c4 : Value) (d : EvD) (w : World) (h : EvR w w.heap.size c0 c1 c2 c3 c4 d) :
 Calls Tryz.prog 109 #[.agg #[c0, c1, c2, c3, c4]] w fun e w' => e = .returned (.bool (turnsB d)) ∧ Below w.heap.size w w' := by
 obtain ⟨rfl, rfl, ⟨S, m, q, rfl, hs, hmq⟩, rfl, rfl⟩ := h
 have HR : Hid (turnsB d = (decide (d.kind = 2) || decide (d.kind = 3))) := rfl
 clear hs
 generalize turnsB d = R at *
 generalize d.name = nm at *
 generalize d.val = vl at *
 generalize d.kind = kd at *
 generalize d.n = nn at *
 go_enter Tryz.func109, Tryz.ntmps109
 by_cases h2 : kd = 2
 · subst h2
   have HE : Hid (R = true) := by unfold Hid; rw [HR.out]; simp
   go_wp2_with fail
   go_ret
   exact ⟨ret_bool HE.out.symm, Below.new _ _⟩
 have hb2 : (kd == (2 : Int)) = false := beq_eq_false_iff_ne.2 h2
 by_cases h3 : kd = 3
 · subst h3
   have HE : Hid (R = true) := by unfold Hid; rw [HR.out]; simp
   go_wp2_with fail
   go_ret
   exact ⟨ret_bool HE.out.symm, Below.new _ _⟩
 have hb3 : (kd == (3 : Int)) = false := beq_eq_false_iff_ne.2 h3
 have HE : Hid (R = false) := by unfold Hid; rw [HR.out]; simp [h2, h3]
 go_wp2_with fail
 go_ret
 exact ⟨ret_bool HE.out.symm, Below.new _ _⟩
set_option maxRecDepth 100000 in
set_option maxHeartbeats 2000000 in
theorem TurnsOf_any (c0 c1 c2 c3 c4 : Value) (d : EvD) (w : World) (h : EvR w w.heap.size c0 c1 c2 c3 c4 d) :
 Calls Tryz.prog 46 #[.agg #[c0, c1, c2, c3, c4]] w fun e w' => e = .returned (.bool (turnsB d)) ∧ Below w.heap.size w w' := by
 obtain ⟨rfl, rfl, ⟨S, m, q, rfl, hs, hmq⟩, rfl, rfl⟩ := h
 have HR : Hid (turnsB d = (decide (d.kind = 2) || decide (d.kind = 3))) := rfl
 clear hs
 generalize turnsB d = R at *
 generalize d.name = nm at *
 generalize d.val = vl at *
 generalize d.kind = kd at *
 generalize d.n = nn at *
 go_enter Tryz.func46, Tryz.ntmps46
 by_cases h2 : kd = 2
 · subst h2
   have HE : Hid (R = true) := by unfold Hid; rw [HR.out]; simp
   go_wp2_with fail
   go_ret
   exact ⟨ret_bool HE.out.symm, Below.new _ _⟩
 have hb2 : (kd == (2 : Int)) = false := beq_eq_false_iff_ne.2 h2
 by_cases h3 : kd = 3
 · subst h3
   have HE : Hid (R = true) := by unfold Hid; rw [HR.out]; simp
   go_wp2_with fail
   go_ret
   exact ⟨ret_bool HE.out.symm, Below.new _ _⟩
 have hb3 : (kd == (3 : Int)) = false := beq_eq_false_iff_ne.2 h3
 have HE : Hid (R = false) := by unfold Hid; rw [HR.out]; simp [h2, h3]
 go_wp2_with fail
 go_ret
 exact ⟨ret_bool HE.out.symm, Below.new _ _⟩
set_option maxRecDepth 100000 in
set_option maxHeartbeats 2000000 in
theorem l25Data_any (nn : Int) (w : World) :
 Calls Tryz.prog 111 #[.int .i64 nn] w fun e w' => e = .returned (.bool (cntB nn)) ∧ w' = w := by
 have HR : Hid (cntB nn = (decide (nn = 0) || (decide (nn = 1) || (decide (nn = 10) || decide (nn = 11))))) := rfl
 generalize cntB nn = R at *
 go_enter Tryz.func111, Tryz.ntmps111
 by_cases h0 : nn = 0
 · subst h0
   have HE : Hid (R = true) := by unfold Hid; rw [HR.out]; simp
   go_wp2_with fail
   go_ret
   exact ⟨ret_bool HE.out.symm, rfl⟩
 have hb0 : (nn == (0 : Int)) = false := beq_eq_false_iff_ne.2 h0
 by_cases h1 : nn = 1
 · subst h1
   have HE : Hid (R = true) := by unfold Hid; rw [HR.out]; simp
   go_wp2_with fail
   go_ret
   exact ⟨ret_bool HE.out.symm, rfl⟩
 have hb1 : (nn == (1 : Int)) = false := beq_eq_false_iff_ne.2 h1
 by_cases h10 : nn = 10
 · subst h10
   have HE : Hid (R = true) := by unfold Hid; rw [HR.out]; simp
   go_wp2_with fail
   go_ret
   exact ⟨ret_bool HE.out.symm, rfl⟩
 have hb10 : (nn == (10 : Int)) = false := beq_eq_false_iff_ne.2 h10
 by_cases h11 : nn = 11
 · subst h11
   have HE : Hid (R = true) := by unfold Hid; rw [HR.out]; simp
   go_wp2_with fail
   go_ret
   exact ⟨ret_bool HE.out.symm, rfl⟩
 have hb11 : (nn == (11 : Int)) = false := beq_eq_false_iff_ne.2 h11
 have HE : Hid (R = false) := by unfold Hid; rw [HR.out]; simp [h0, h1, h10, h11]
 go_wp2_with fail
 go_ret
 exact ⟨ret_bool HE.out.symm, rfl⟩
set_option maxRecDepth 100000 in
set_option maxHeartbeats 2000000 in
theorem countOk_any (nn : Int) (w : World) :
 Calls Tryz.prog 196 #[.int .i64 nn] w fun e w' => e = .returned (.bool (cntB nn)) ∧ w' = w := by
 have HR : Hid (cntB nn = (decide (nn = 0) || (decide (nn = 1) || (decide (nn = 10) || decide (nn = 11))))) := rfl
 generalize cntB nn = R at *
 go_enter Tryz.func196, Tryz.ntmps196
 by_cases h0 : nn = 0
 · subst h0
   have HE : Hid (R = true) := by unfold Hid; rw [HR.out]; simp
   go_wp2_with fail
   go_ret
   exact ⟨ret_bool HE.out.symm, rfl⟩
 have hb0 : (nn == (0 : Int)) = false := beq_eq_false_iff_ne.2 h0
 by_cases h1 : nn = 1
 · subst h1
   have HE : Hid (R = true) := by unfold Hid; rw [HR.out]; simp
   go_wp2_with fail
   go_ret
   exact ⟨ret_bool HE.out.symm, rfl⟩
 have hb1 : (nn == (1 : Int)) = false := beq_eq_false_iff_ne.2 h1
 by_cases h10 : nn = 10
 · subst h10
   have HE : Hid (R = true) := by unfold Hid; rw [HR.out]; simp
   go_wp2_with fail
   go_ret
   exact ⟨ret_bool HE.out.symm, rfl⟩
 have hb10 : (nn == (10 : Int)) = false := beq_eq_false_iff_ne.2 h10
 by_cases h11 : nn = 11
 · subst h11
   have HE : Hid (R = true) := by unfold Hid; rw [HR.out]; simp
   go_wp2_with fail
   go_ret
   exact ⟨ret_bool HE.out.symm, rfl⟩
 have hb11 : (nn == (11 : Int)) = false := beq_eq_false_iff_ne.2 h11
 have HE : Hid (R = false) := by unfold Hid; rw [HR.out]; simp [h0, h1, h10, h11]
 go_wp2_with fail
 go_ret
 exact ⟨ret_bool HE.out.symm, rfl⟩
end Go.Proofs.YtlicffeicmoifaaGreatDoor
namespace Go.Proofs.YtlicffeicmoifaaGreatDoor
open Go.RowKit
set_option linter.unusedVariables false
def cmpN (d t : NodeD) : Int := cmpLoc d.name d.subs t.name t.subs
def posN (fs : List NodeD) (t : NodeD) : Nat := (fs.takeWhile fun d => decide (cmpN d t < 0)).length
def foundN (fs : List NodeD) (t : NodeD) : Bool := decide (posN fs t < fs.length) && decide (cmpN (fs.getD (posN fs t) default) t = 0)
theorem posN_at (fs : List NodeD) (t : NodeD) : posN fs t = atN fs t.name t.subs := by
 unfold posN atN
 congr 1
 congr 1
 funext d
 exact (stepB_cmp d t).symm
theorem foundN_has (fs : List NodeD) (t : NodeD) : foundN fs t = hasN fs t.name t.subs := by
 unfold foundN hasN
 rw [posN_at]
 congr 1
 unfold hereN cmpN
 rw [Bool.eq_iff_iff, decide_eq_true_iff, cmpLoc_zero]
 simp
theorem posN_of (fs : List NodeD) (t : NodeD) (i : Nat) (hi : i ≤ fs.length) (h1 : ∀ j, j < i → cmpN (fs.getD j default) t < 0) (h2 : i < fs.length → 0 ≤ cmpN (fs.getD i default) t) : posN fs t = i := by
 unfold posN
 refine takeWhile_len _ fs i hi (fun j hj => decide_eq_true (h1 j hj)) ?_
 by_cases h : i < fs.length
 · exact .inr (decide_eq_false (by have := h2 h; omega))
 · exact .inl (by omega)
theorem place_mono {fs : List NodeD} (t : NodeD) (h : treeB fs = true) : ∀ i j, i ≤ j → j < fs.length → cmpN (fs.getD j default) t < 0 → cmpN (fs.getD i default) t < 0 := by
 intro i j hij hj hc
 have h1 : stepB (fs.getD j default) t = true := by rw [stepB_cmp]; exact decide_eq_true hc
 have h2 : stepB (fs.getD i default) t = true := by
  by_cases e : i = j
  · subst e; exact h1
  · refine ahead_trans ?_ h1
    have h3 := tree_far h (j - i - 1) i (by omega)
    rwa [show i + (j - i - 1) + 1 = j by omega] at h3
 rw [stepB_cmp] at h2
 exact of_decide_eq_true h2
def PlacePost (k : Nat) (b : Bool) (w : World) (e : Ending) (w' : World) : Prop := e = .returned (.tuple #[.int .i64 k, .bool b]) ∧ Below w.heap.size w w'
theorem ret_ib {a b : Int} {x y : Bool} (h1 : a = b) (h2 : x = y) : Ending.returned (.tuple #[.int .i64 a, .bool x]) = .returned (.tuple #[.int .i64 b, .bool y]) := by rw [h1, h2]
set_option maxRecDepth 100000 in
set_option maxHeartbeats 2000000 in
theorem place1_any (c0 c1 c2 d0 d1 d2 : Value) (x y : NodeD) (w : World) (htab : tabT w) (h : NodeR w w.heap.size c0 c1 c2 x) (h' : NodeR w w.heap.size d0 d1 d2 y) (hs : x.small) (hs' : y.small) :
 Calls Tryz.prog 290 #[.agg #[c0, c1, c2], .agg #[d0, d1, d2]] w fun e w' => e = .returned (.int .i64 (cmpN x y)) ∧ Below w.heap.size w w' := by
 obtain ⟨rfl, ⟨A, n, c, rfl, h1, _⟩, rfl⟩ := h
 obtain ⟨rfl, ⟨A', n', c', rfl, h1', _⟩, rfl⟩ := h'
 have hn : n ≤ 1048576 := by rw [← h1.1]; exact hs.2.1.1
 have hn' : n' ≤ 1048576 := by rw [← h1'.1]; exact hs'.2.1.1
 have HK := Lib.hid (fun W (hW : Below w.heap.size w W) => compareLocations_any x.name y.name A A' n c n' c' x.subs y.subs W (tab_later htab hW) (h1.later hW) (h1'.later hW) hn hn' hs.2.1.2 hs'.2.1.2)
 have HE : Hid (cmpLoc x.name x.subs y.name y.subs = cmpN x y) := rfl
 clear h1 h1' htab hs hs'
 generalize cmpN x y = R at *
 generalize cmpLoc x.name x.subs y.name y.subs = z at *
 generalize x.name = xn at *
 generalize y.name = yn at *
 generalize x.val = xv at *
 generalize y.val = yv at *
 go_enter Tryz.func290, Tryz.ntmps290
 go_wp2_with fail
 refine (HK.out _ ((Below.new _ _).later (Below.new _ _))).mono ?_
 rintro e w1 ⟨rfl, hb1⟩
 have HB1 := Lib.hid (((Below.new _ _).later (Below.new _ _)).later hb1)
 clear hb1
 go_wp2_with fail
 go_ret
 exact ⟨ret_int HE.out, HB1.out⟩
set_option maxRecDepth 100000 in
set_option maxHeartbeats 2000000 in
theorem BinarySearchN_any (A : Option Addr) (n c : Nat) (fs : List NodeD) (d0 d1 d2 : Value) (t : NodeD) (w : World) (htab : tabT w) (h : Nodes w w.heap.size A n fs) (hs : smallNs fs) (hr : NodeR w w.heap.size d0 d1 d2 t) (hst : t.small)
 (hmono : ∀ i j, i ≤ j → j < fs.length → cmpN (fs.getD j default) t < 0 → cmpN (fs.getD i default) t < 0) :
 Calls Tryz.prog 289 #[.slice A n c, .agg #[d0, d1, d2], .func (.func 290) #[] #[]] w (PlacePost (posN fs t) (foundN fs t) w) := by
 have eg : ∀ args w, (callFunc 290 args).run Tryz.prog w = .ok (.enter 290 args) w := enters_of Tryz.func290 (by kernel_rfl) rfl
 have Hh := Lib.hid h
 have Hlen := Lib.hid h.1
 have hn : n ≤ 1048576 := by rw [← h.1]; exact hs.1
 have Hs := Lib.hid hs
 have HT := Lib.hid htab
 have Hst := Lib.hid hst
 have HM := Lib.hid hmono
 have HR := Lib.hid hr
 obtain ⟨rfl, ⟨A', n', cap', rfl, h3', _⟩, rfl⟩ := hr
 clear h hs htab hst hmono h3'
 go_enter Tryz.func289, Tryz.ntmps289
 go_wp2_with fail
 go_loopw [9, 10] (fun i j wr => ∃ (a b : Nat), a ≤ b ∧ b ≤ n ∧ i = .int .i64 a ∧ j = .int .i64 b ∧ Below (w.heap.size + 1) (w.alloc (.cells #[.string t.name, .slice A' n' cap', .string t.val] 89)) wr ∧ Hid (∀ k, k < a → cmpN (fs.getD k default) t < 0) ∧ Hid (∀ k, b ≤ k → k < n → 0 ≤ cmpN (fs.getD k default) t)) (fun i j _ => (intOf j).toNat - (intOf i).toNat)
 case atStart => exact ⟨0, n, by omega, by omega, rfl, rfl, Below.refl _ _, fun k hk => absurd hk (by omega), fun k h1 h2 => absurd h2 (by omega)⟩
 case round =>
  obtain ⟨a, b, hab, hbn, rfl, rfl, hb, hlo, hhi⟩ := hrel
  have hbx := (Blk.later (heap_alloc_new w _) hb (by omega))
  have hz0 : w.heap.size < wr.heap.size := hbx.lt
  have HB := Lib.hid hb
  have HBw := Lib.hid ((Below.new _ _).trans (hb.mono (by omega)))
  clear hb
  by_cases hlt : a < b
  · obtain ⟨m, hm⟩ : ∃ m : Nat, m = (a + b) / 2 := ⟨_, rfl⟩
    have hma : a ≤ m := by omega
    have hmb : m < b := by omega
    have hmI : ((a : Int) + (b : Int)) / 2 = (m : Int) := by omega
    have hmn : (m : Int) < n := by omega
    obtain ⟨bb, o, rfl, hbB, hc'⟩ := (Hh.out.later HBw.out).2 (by omega)
    obtain ⟨c0, c1, c2, k0, k1, k2, hrd⟩ := hc' m (by omega)
    clear hc'
    have hsm := Hs.out.2 _ (getD_memD fs m (by rw [Hlen.out]; omega))
    have HD : Hid (fs.getD m default = fs.getD m default) := rfl
    generalize hdd : fs.getD m default = d at *
    have HDD := Lib.hid hdd
    clear hdd HD
    have HKC := Lib.hid (fun W (hW : Below wr.heap.size wr W) => place1_any c0 c1 c2 _ _ _ d t W (tab_later HT.out (HBw.out.later hW)) (hrd.later hW) (HR.out.later (HBw.out.later hW)) hsm Hst.out)
    obtain ⟨e0, ⟨A1, n1, cap1, e1, hs1, _⟩, e2⟩ := hrd
    subst e0 e1 e2
    clear hs1 hsm
    have q0 := hbx.cell 0
    have q1 := hbx.cell 1
    have q2 := hbx.cell 2
    simp at q0 q1 q2
    clear hbx
    generalize hyd : cmpN d t = y at *
    have HY := Lib.hid hyd
    clear hyd
    clear hm
    go_wp2_with fail
    have hw1 : IntKind.i64.wrap (m : Int) = (m : Int) := IntWalk.i64_in _ (by omega)
    have hw2 : (0 : Int) ≤ (m : Int) := by omega
    have hw3 : ((m : Int)).toNat = m := by omega
    go_region_held3 (fun w' => w'.cell? ⟨bb, o + m * 3, none⟩ = some (.string d.name) ∧ w'.cell? ⟨bb, o + m * 3 + 1, none⟩ = some (.slice A1 n1 cap1) ∧ w'.cell? ⟨bb, o + m * 3 + 2, none⟩ = some (.string d.val) ∧ w'.cell? ⟨w.heap.size, 0, none⟩ = some (.string t.name) ∧ w'.cell? ⟨w.heap.size, 1, none⟩ = some (.slice A' n' cap') ∧ w'.cell? ⟨w.heap.size, 2, none⟩ = some (.string t.val)) (first | exact ⟨k0, k1, k2, q0, q1, q2⟩ | exact ⟨cell_later hb2 k0, cell_later hb2 k1, cell_later hb2 k2, cell_later hb2 q0, cell_later hb2 q1, cell_later hb2 q2⟩)
     (first
       | (go_at_fn 290; refine (HKC.out _ (by exact (Below.refl _ _).drew)).mono ?_; rintro e w2 ⟨rfl, hb2'⟩; have hb2 := undrew hb2'; clear hb2'))
    have HB2 := Lib.hid (HB.out.trans (hb2.mono (by omega)))
    clear hw1 hw2 hw3 q0 q1 q2 hb2 k0 k1 k2
    by_cases hy : y < 0
    · go_wp2_with fail
      go_roundw
      case rel => exact ⟨m + 1, b, by omega, by omega, by go_num, rfl, HB2.out, fun k hk => by
       rcases Nat.lt_or_ge k m with h | h
       · exact HM.out k m (by omega) (by rw [Hlen.out]; omega) (by rw [HDD.out, HY.out]; exact hy)
       · obtain rfl : k = m := by omega
         rw [HDD.out, HY.out]; exact hy, hhi⟩
      case measure => simp [intOf]; omega
    · go_wp2_with fail
      go_roundw
      case rel => exact ⟨a, m, by omega, by omega, rfl, rfl, HB2.out, hlo, fun k hk hk2 => by
       rcases Int.lt_or_le (cmpN (fs.getD k default) t) 0 with h | h
       · have := HM.out m k hk (by rw [Hlen.out]; omega) h
         rw [HDD.out, HY.out] at this
         omega
       · exact h⟩
      case measure => simp [intOf]; omega
  · obtain rfl : a = b := by omega
    have hpos : posN fs t = a := posN_of fs t a (by rw [Hlen.out]; omega) hlo.out (fun h => hhi.out a (Nat.le_refl _) (by rw [← Hlen.out]; exact h))
    have HPos := Lib.hid hpos
    by_cases han : a < n
    · have HF : Hid (foundN fs t = decide (cmpN (fs.getD a default) t = 0)) := by unfold Hid foundN; rw [hpos, Hlen.out, decide_eq_true han]; rfl
      clear hpos
      obtain ⟨bb, o, rfl, hbB, hc'⟩ := (Hh.out.later HBw.out).2 (by omega)
      obtain ⟨c0, c1, c2, k0, k1, k2, hrd⟩ := hc' a (by omega)
      clear hc'
      have hsm := Hs.out.2 _ (getD_memD fs a (by rw [Hlen.out]; omega))
      have HD : Hid (fs.getD a default = fs.getD a default) := rfl
      generalize hdd : fs.getD a default = d at *
      have HDD := Lib.hid hdd
      clear hdd HD
      have HKC := Lib.hid (fun W (hW : Below wr.heap.size wr W) => place1_any c0 c1 c2 _ _ _ d t W (tab_later HT.out (HBw.out.later hW)) (hrd.later hW) (HR.out.later (HBw.out.later hW)) hsm Hst.out)
      obtain ⟨e0, ⟨A1, n1, cap1, e1, hs1, _⟩, e2⟩ := hrd
      subst e0 e1 e2
      clear hs1 hsm
      have q0 := hbx.cell 0
      have q1 := hbx.cell 1
      have q2 := hbx.cell 2
      simp at q0 q1 q2
      clear hbx
      generalize hyd : cmpN d t = y at *
      have HY := Lib.hid hyd
      clear hyd
      go_wp2_with fail
      have hw1 : IntKind.i64.wrap (a : Int) = (a : Int) := IntWalk.i64_in _ (by omega)
      have hw2 : (0 : Int) ≤ (a : Int) := by omega
      have hw3 : ((a : Int)).toNat = a := by omega
      have hw4 : (a : Int) < n := by omega
      go_region_held3 (fun w' => w'.cell? ⟨bb, o + a * 3, none⟩ = some (.string d.name) ∧ w'.cell? ⟨bb, o + a * 3 + 1, none⟩ = some (.slice A1 n1 cap1) ∧ w'.cell? ⟨bb, o + a * 3 + 2, none⟩ = some (.string d.val) ∧ w'.cell? ⟨w.heap.size, 0, none⟩ = some (.string t.name) ∧ w'.cell? ⟨w.heap.size, 1, none⟩ = some (.slice A' n' cap') ∧ w'.cell? ⟨w.heap.size, 2, none⟩ = some (.string t.val)) (first | exact ⟨k0, k1, k2, q0, q1, q2⟩ | exact ⟨cell_later hb2 k0, cell_later hb2 k1, cell_later hb2 k2, cell_later hb2 q0, cell_later hb2 q1, cell_later hb2 q2⟩)
       (first
         | (go_at_fn 290; refine (HKC.out _ (by exact (Below.refl _ _).drew)).mono ?_; rintro e w2 ⟨rfl, hb2'⟩; have hb2 := undrew hb2'; clear hb2'))
      have HB2 := Lib.hid (HBw.out.later hb2)
      clear hw1 hw2 hw3 hw4 q0 q1 q2 hb2 k0 k1 k2
      go_wp2_with fail
      go_ret2
      unfold PlacePost
      rw [HPos.out, HF.out]
      exact ⟨ret_ib rfl (by rw [Bool.eq_iff_iff]; simp), HB2.out⟩
    · have HF : Hid (foundN fs t = false) := by unfold Hid foundN; rw [hpos, Hlen.out, decide_eq_false han]; rfl
      have hd1 : decide ((a : Int) < (n : Int)) = false := by simp; omega
      have hd2 : decide (a < n) = false := by simp; omega
      clear hpos hbx
      go_wp2_with fail
      go_quiet (fail)
      go_wp2_with fail
      go_ret2
      unfold PlacePost
      rw [HPos.out, HF.out]
      exact ⟨rfl, below_drewN HBw.out _⟩
set_option maxRecDepth 100000 in
set_option maxHeartbeats 2000000 in
theorem place_any (A : Option Addr) (n c : Nat) (fs : List NodeD) (nm : ByteArray) (S : Option Addr) (m q : Nat) (ss : List ByteArray) (w : World) (htab : tabT w) (h : Nodes w w.heap.size A n fs) (ht : treeB fs = true) (hS : Strs w w.heap.size S m ss) (hmq : m ≤ q) (hd : (⟨nm, ss, ByteArray.empty⟩ : NodeD).small) :
 Calls Tryz.prog 228 #[.agg #[.slice A n c], .string nm, .slice S m q] w (PlacePost (atN fs nm ss) (hasN fs nm ss) w) := by
 have HK := Lib.hid (fun W (hW : Below w.heap.size w W) => BinarySearchN_any A n c fs (.string nm) (.slice S m q) (.string ByteArray.empty) ⟨nm, ss, ByteArray.empty⟩ W (tab_later htab hW) (h.later hW) (tree_small ht) ⟨rfl, ⟨S, m, q, rfl, hS.later hW, hmq⟩, rfl⟩ hd (place_mono _ ht))
 have e1 := posN_at fs ⟨nm, ss, ByteArray.empty⟩
 have e2 := foundN_has fs ⟨nm, ss, ByteArray.empty⟩
 simp only [e1, e2] at HK
 clear h ht hS htab hd e1 e2
 generalize atN fs nm ss = x at *
 generalize hasN fs nm ss = y at *
 go_enter Tryz.func228, Tryz.ntmps228
 go_wp2_with fail
 refine (HK.out _ (Below.new _ _)).mono ?_
 rintro e w1 ⟨rfl, hb1⟩
 have HB1 := Lib.hid ((Below.new _ _).later hb1)
 clear hb1
 go_wp2_with fail
 go_ret2
 exact ⟨rfl, HB1.out⟩
end Go.Proofs.YtlicffeicmoifaaGreatDoor
namespace Go.Proofs.YtlicffeicmoifaaGreatDoor
open Go.RowKit
set_option linter.unusedVariables false
set_option maxRecDepth 100000 in
set_option maxHeartbeats 2000000 in
theorem atOrBelow_any (c0 c1 c2 : Value) (A : Option Addr) (n c : Nat) (d : NodeD) (nm : ByteArray) (ss : List ByteArray) (w : World) (h : NodeR w w.heap.size c0 c1 c2 d) (h' : Strs w w.heap.size A n ss) (hn : n ≤ 1048576) :
 Calls Tryz.prog 234 #[.agg #[c0, c1, c2], .string nm, .slice A n c] w fun e w' => e = .returned (.bool (inN nm ss d)) ∧ Below w.heap.size w w' := by
 obtain ⟨rfl, ⟨A1, n1, p1, rfl, s1, k1⟩, rfl⟩ := h
 have HR : Hid (inN nm ss d = (decide (d.name = nm) && startsB ss d.subs)) := rfl
 have HK := Lib.hid (begins_any A1 A n1 p1 n c d.subs ss (w.alloc (.cells #[.string d.name, .slice A1 n1 p1, .string d.val] 89)) (s1.later (Below.new _ _)) (h'.later (Below.new _ _)) hn k1)
 clear s1 h'
 generalize inN nm ss d = R at *
 generalize startsB ss d.subs = x at *
 generalize d.name = dn at *
 generalize d.val = dv at *
 by_cases he : dn = nm
 · subst he
   have HE : Hid (R = x) := by unfold Hid; rw [HR.out]; simp
   clear HR
   go_enter Tryz.func234, Tryz.ntmps234
   go_wp2_with fail
   refine HK.out.mono ?_
   rintro e w1 ⟨rfl, q, rfl⟩
   go_wp2_with fail
   go_ret
   exact ⟨ret_bool HE.out.symm, below_drewN (Below.new _ _) q⟩
 · have HE : Hid (R = false) := by unfold Hid; rw [HR.out]; simp [he]
   have hb := str_beq he
   clear HR HK he
   go_enter Tryz.func234, Tryz.ntmps234
   go_wp2_with fail
   go_ret
   exact ⟨ret_bool HE.out.symm, Below.new _ _⟩
theorem has_ltG {fs : List NodeD} {nm : ByteArray} {ss : List ByteArray} (h : hasN fs nm ss = true) : atN fs nm ss < fs.length := by
 unfold hasN at h
 rw [Bool.and_eq_true, decide_eq_true_eq] at h
 exact h.1
set_option maxRecDepth 100000 in
set_option maxHeartbeats 2000000 in
theorem get_any (A : Option Addr) (n c : Nat) (fs : List NodeD) (nm : ByteArray) (S : Option Addr) (m q : Nat) (ss : List ByteArray) (w : World) (htab : tabT w) (h : Nodes w w.heap.size A n fs) (ht : treeB fs = true) (hS : Strs w w.heap.size S m ss) (hmq : m ≤ q) (hd : (⟨nm, ss, ByteArray.empty⟩ : NodeD).small) :
 Calls Tryz.prog 158 #[.agg #[.slice A n c], .string nm, .slice S m q] w fun e w' => e = .returned (.tuple #[.string (getF fs nm ss), .bool (hasN fs nm ss)]) ∧ Below w.heap.size w w' := by
 have HK := Lib.hid (fun W (hW : Below w.heap.size w W) => place_any A n c fs nm S m q ss W (tab_later htab hW) (h.later hW) ht (hS.later hW) hmq hd)
 have HN := Lib.hid h
 have hlt : hasN fs nm ss = true → atN fs nm ss < n := fun hh => by rw [← h.1]; exact has_ltG hh
 have hn : n ≤ 120 := by rw [← h.1]; exact (tree_iff.1 ht).1
 have HG : Hid (getF fs nm ss = if hasN fs nm ss = true then (fs.getD (atN fs nm ss) default).val else ⟨#[]⟩) := rfl
 clear h ht hS htab hd
 generalize getF fs nm ss = R at *
 generalize atN fs nm ss = x at *
 generalize hasN fs nm ss = y at *
 go_enter Tryz.func158, Tryz.ntmps158
 go_wp2_with fail
 refine (HK.out _ (by first | exact Below.refl _ _ | exact Below.new _ _)).mono ?_
 rintro e w1 ⟨rfl, hb1⟩
 have HB1 : Hid (Below w.heap.size w w1) := by first | exact (Below.new _ _).later hb1 | exact hb1
 have p0 := box_at hb1 0
 simp at p0
 clear hb1
 cases y
 · have HE : Hid (R = ByteArray.empty) := HG.out
   go_wp2_with fail
   go_ret2
   exact ⟨by rw [HE.out]; rfl, HB1.out⟩
 · have hxn := hlt rfl
   have HE : Hid (R = (fs.getD x default).val) := HG.out
   obtain ⟨bb, o, rfl, hbB, hc⟩ := (HN.out.later HB1.out).2 (by omega)
   obtain ⟨c0, c1, c2, k0, k1, k2, hr⟩ := hc x hxn
   obtain ⟨_, _, rfl⟩ := hr
   clear hc hlt k0 k1
   generalize (fs.getD x default).val = vl at *
   go_wp2_with fail
   go_ret2
   exact ⟨by rw [HE.out]; rfl, HB1.out⟩
end Go.Proofs.YtlicffeicmoifaaGreatDoor
namespace Go.Proofs.YtlicffeicmoifaaGreatDoor
open Go.RowKit
set_option maxHeartbeats 1000000 in
theorem Before_any (a b : ByteArray) (w : World) (htab : tabT w) (ha : a.size ≤ 1048576) (hb : b.size ≤ 1048576) :
 Calls Tryz.prog 296 #[.string a, .string b] w fun e w' => e = .returned (.bool (beforeB a b)) ∧ Below w.heap.size w w' := by
 have HK := Lib.hid (collate_any a b w htab ha hb)
 have hR := colI_lt a b
 generalize beforeB a b = R at *
 generalize colI a b = y at *
 have HR := Lib.hid hR
 clear hR
 go_enter Tryz.func296, Tryz.ntmps296
 go_wp2_with fail
 refine HK.out.mono ?_
 rintro e w1 ⟨rfl, hb1⟩
 have HB := Lib.hid hb1
 clear hb1
 go_wp2_with fail
 go_ret
 exact ⟨ret_bool HR.out, HB.out⟩
end Go.Proofs.YtlicffeicmoifaaGreatDoor
