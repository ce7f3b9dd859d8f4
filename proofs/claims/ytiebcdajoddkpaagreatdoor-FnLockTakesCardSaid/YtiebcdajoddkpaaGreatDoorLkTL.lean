/-
  What the program's TakeLock computes.
-/
import Derived.Test.YtiebcdajoddkpaaGreatDoorLkTake
import Derived.Test.YtiebcdajoddkpaaGreatDoorLkP
import Derived.Test.YtiebcdajoddkpaaGreatDoorLk6
namespace Go.Proofs.YtiebcdajoddkpaaGreatDoor
open Go.RowKit

def resI (held asks : List ItD) (job : Int) (nm : ByteArray) (ss : List ByteArray) : Bool := locksI held asks && inB job 1 4 && thingB nm ss

set_option maxHeartbeats 400000 in
theorem resourceOk_any (A A' : Option Addr) (n c n' c' : Nat) (held asks : List ItD) (job : Int) (nm : ByteArray) (S : Option Addr) (m q : Nat) (ss : List ByteArray) (w : World) (htab : tabT w) (h : Its w w.heap.size A n held) (ha : Its w w.heap.size A' n' asks) (hs : smalls held) (hsa : smalls asks) (hnc : n ≤ c)
    (hS : Strs w w.heap.size S m ss) (hst : (tgt job nm ss).small) :
    Calls Tryz.prog 53 #[.agg #[.slice A n c, .slice A' n' c'], .int .i64 job, .string nm, .slice S m q] w fun e w' => e = .returned (.bool (resI held asks job nm ss)) ∧ Below w.heap.size w w' := by
  have hm : m ≤ 1048576 := by rw [← hS.1]; exact hst.2.1
  have HK1 := Lib.hid (fun o => LocksOk_any A A' n c n' c' held asks (w.alloc o) (tab_later htab (Below.new _ _)) (h.alloc o) (ha.alloc o) hs hsa hnc)
  have HK2 := Lib.hid (fun W => jobOk_any job W)
  have HK3 := Lib.hid (fun W (hW : Below w.heap.size w W) => locationOk_any nm S m q ss W hst.1 (hS.later hW) hm hst.2.2)
  have HR : Hid (resI held asks job nm ss = (locksI held asks && inB job 1 4 && thingB nm ss)) := rfl
  clear htab h ha hs hsa hS hst
  generalize resI held asks job nm ss = R at *
  generalize locksI held asks = x at *
  generalize inB job 1 4 = y at *
  generalize thingB nm ss = z at *
  go_enter Tryz.func53, Tryz.ntmps53
  go_wp2_with fail
  refine (HK1.out _).mono ?_
  rintro e w1 ⟨rfl, hb1⟩
  have HB := Lib.hid ((Below.new _ _).later hb1)
  clear hb1
  cases x
  · go_wp2_with fail
    go_ret
    exact ⟨ret_bool (by rw [HR.out]; rfl), HB.out⟩
  · go_wp2_with fail
    refine (HK2.out _).mono ?_
    rintro e w2 ⟨rfl, rfl⟩
    cases y
    · go_wp2_with fail
      go_ret
      exact ⟨ret_bool (by rw [HR.out]; rfl), HB.out⟩
    · go_wp2_with fail
      refine (HK3.out _ HB.out).mono ?_
      rintro e w2 ⟨rfl, rfl⟩
      go_wp2_with fail
      go_ret
      exact ⟨ret_bool (by rw [HR.out]; rfl), HB.out⟩

/-- The answer of the program's TakeLock. -/
def tlI (held asks : List ItD) (job : Int) (nm : ByteArray) (ss : List ByteArray) (t : Int) : Bool × Int × List ItD × List ItD :=
  if (resI held asks job nm ss && (decide (0 ≤ t) && decide (t ≤ 999999))) = true then
    (if (takeI held asks job nm ss t).2.1 = 0 then takeI held asks job nm ss t else (false, (takeI held asks job nm ss t).2.1, [], []))
  else (false, 1, [], [])
def TLPost (r : Bool × Int × List ItD × List ItD) (w : World) (e : Ending) (w' : World) : Prop :=
  ∃ v0 v1 vs us, e = .returned (.tuple #[.agg #[v0, v1], .bool r.1, .int .i64 r.2.1]) ∧ OwnIts w' w.heap.size 37 v0 r.2.2.1 vs ∧ OwnIts w' w.heap.size 42 v1 r.2.2.2 us ∧ (∀ x ∈ vs, ∀ y ∈ us, apart x y) ∧ Below w.heap.size w w'
theorem own_none (w : World) (base t : Nat) : OwnIts w base t (.slice none 0 0) [] [] := ⟨rfl, World.ownsRow_nil _ _ _ _, fun j hj => by simp at hj, List.Pairwise.nil⟩

theorem okB_pos {held asks : List ItD} (h : okB held asks = true) : ∀ d ∈ held, 0 ≤ d.b := by
  unfold okB at h
  rw [Bool.and_eq_true, Bool.and_eq_true] at h
  have hat := allFrom_at held.length 0 h.1.2
  intro d hd
  obtain ⟨j, hj, rfl⟩ := List.getElem_of_mem hd
  have := hat j (by omega) (by omega)
  unfold heldAt hOk1 at this
  have hg : held.getD j default = held[j] := by rw [List.getD_eq_getElem?_getD, List.getElem?_eq_getElem hj]; rfl
  rw [hg] at this
  simp only [inB, Bool.and_eq_true, decide_eq_true_iff] at this
  omega
theorem okB_asks {held asks : List ItD} (h : okB held asks = true) : asks.length ≤ 4 := by
  unfold okB at h
  simp only [Bool.and_eq_true, decide_eq_true_iff] at h
  omega

set_option maxRecDepth 100000 in
set_option maxHeartbeats 2000000 in
theorem TakeLock_any (A A' : Option Addr) (n c n' c' : Nat) (held asks : List ItD) (job : Int) (nm : ByteArray) (S : Option Addr) (m q : Nat) (ss : List ByteArray) (t : Int) (w : World) (htab : tabT w) (h : Its w w.heap.size A n held) (ha : Its w w.heap.size A' n' asks) (hs : smalls held) (hsa : smalls asks) (hnc : n ≤ c)
    (hS : Strs w w.heap.size S m ss) (hmq : m ≤ q) (hst : (tgt job nm ss).small) :
    Calls Tryz.prog 18 #[.agg #[.slice A n c, .slice A' n' c'], .int .i64 job, .string nm, .slice S m q, .int .i64 t] w (TLPost (tlI held asks job nm ss t) w) := by
  have HK1 := Lib.hid (fun W (hW : Below w.heap.size w W) => resourceOk_any A A' n c n' c' held asks job nm S m q ss W (tab_later htab hW) (h.later hW) (ha.later hW) hs hsa hnc (hS.later hW) hst)
  have HK2 := Lib.hid (fun W => within_any t 0 999999 W)
  have HK3 := Lib.hid (fun W (hW : Below w.heap.size w W) => copyLocks_any A A' n c n' c' held asks W (h.later hW) (ha.later hW) hs hsa)
  have HK4 := Lib.hid (fun (hr : resI held asks job nm ss = true) B base p v0 v1 vs us W (hW : Below w.heap.size w W) (hl : LkO W base p v0 v1 held asks vs us) (hB : B ≤ base) (hBw : base ≤ W.heap.size) => by
    have hok : okB held asks = true := by
      unfold resI at hr
      rw [Bool.and_eq_true, Bool.and_eq_true, locksI_eq] at hr
      exact hr.1.1
    exact take_any B base p v0 v1 held asks vs us job nm S m q ss t W (tab_later htab hW) hl hB hBw hs hsa (hS.later hW) hmq hst (fun i j hij hj hc => okB_mono hok _ i j hij hj hc) (okB_pos hok) (by have := okB_asks hok; omega))
  have HT : Hid (tlI held asks job nm ss t = if (resI held asks job nm ss && (decide (0 ≤ t) && decide (t ≤ 999999))) = true then
    (if (takeI held asks job nm ss t).2.1 = 0 then takeI held asks job nm ss t else (false, (takeI held asks job nm ss t).2.1, [], []))
    else (false, 1, [], [])) := rfl
  clear htab h ha hs hsa hS hst
  generalize tlI held asks job nm ss t = T at *
  generalize takeI held asks job nm ss t = r at *
  generalize (decide (0 ≤ t) && decide (t ≤ 999999)) = z at *
  generalize resI held asks job nm ss = x at *
  go_enter Tryz.func18, Tryz.ntmps18
  go_wp2_with fail
  refine (HK1.out _ (by exact (Below.new _ _).later (Below.new _ _))).mono ?_
  rintro e w1 ⟨rfl, hb1⟩
  have hbx := Blk.later (heap_two0 w _ _) hb1 (by simp; omega)
  have hby := Blk.later (heap_two1 w _ _) hb1 (by simp)
  have HB := Lib.hid (((Below.new _ _).later (Below.new _ _)).later hb1)
  have HBX := Lib.hid hbx
  have HBY := Lib.hid hby
  have p1 := hbx.cell
  have p2 := hby.cell
  have f2 := hby.frozen
  have z1 := hbx.lt
  have z2 := hby.lt
  clear hb1 hbx hby
  cases x
  · have HE : Hid (T = (false, 1, [], [])) := by unfold Hid; rw [HT.out]; rfl
    go_wp2_with fail
    refine bodyPost_ret (v := .tuple #[.agg #[.slice none 0 0, .slice none 0 0], .bool false, .int .i64 1]) (by simp [results, Tryz.results18, go_sem, p2]) rfl ?_
    exact ⟨_, _, [], [], by rw [HE.out], by rw [HE.out]; exact own_none _ _ _, by rw [HE.out]; exact own_none _ _ _, by simp, (HB.out.setCell (by simp) _).setCell (by simp) _⟩
  · go_wp2_with fail
    refine (HK2.out _).mono ?_
    rintro e w2 ⟨rfl, rfl⟩
    cases z
    · have HE : Hid (T = (false, 1, [], [])) := by unfold Hid; rw [HT.out]; rfl
      go_wp2_with fail
      refine bodyPost_ret (v := .tuple #[.agg #[.slice none 0 0, .slice none 0 0], .bool false, .int .i64 1]) (by simp [results, Tryz.results18, go_sem, p2]) rfl ?_
      exact ⟨_, _, [], [], by rw [HE.out], by rw [HE.out]; exact own_none _ _ _, by rw [HE.out]; exact own_none _ _ _, by simp, (HB.out.setCell (by simp) _).setCell (by simp) _⟩
    · have HE : Hid (T = if r.2.1 = 0 then r else (false, r.2.1, [], [])) := by unfold Hid; rw [HT.out]; rfl
      go_wp2_with fail
      refine (HK3.out _ HB.out).mono ?_
      rintro e w2 ⟨p, v0, v1, vs, us, rfl, hL, hb2⟩
      have HB2 := Lib.hid (HB.out.later hb2)
      have HL := Lib.hid hL
      have HBX2 := Lib.hid (HBX.out.later hb2 z1)
      have HBY2 := Lib.hid (HBY.out.later hb2 z2)
      have hsz := HB2.out.size
      have hsz2 := hb2.size
      have hsz1 := HB.out.size
      clear hL hb2 p1 p2 f2 
      go_wp2_with fail
      refine (HK4.out (by trivial) w1.heap.size w1.heap.size p v0 v1 vs us _ HB2.out HL.out (Nat.le_refl _) hsz2).mono ?_
      rintro e w3 ⟨rfl, v0', v1', vs', us', hL3, hb3⟩
      have HB3 := Lib.hid (HB2.out.trans (hb3.mono (by omega)))
      have HBY3 := Lib.hid (HBY2.out.later hb3 z2)
      have HL3 := Lib.hid hL3
      have p2 := HBY3.out.cell
      have f2 := HBY3.out.frozen
      have z2' := HBY3.out.lt
      clear hb3 hL3
      obtain ⟨g, ec, held', asks'⟩ := r
      by_cases hec : ec = 0
      · subst hec
        obtain ⟨A7, cap7, e7, _⟩ := own_slice HL3.out.h.row
        obtain ⟨A8, cap8, e8, _⟩ := own_slice HL3.out.a.row
        subst e7 e8
        have HE2 : Hid (T = (g, 0, held', asks')) := by unfold Hid; rw [HE.out]; rfl
        have q2 := HL3.out.blk.cell
        have q3 := HL3.out.blk.lt
        have HHn : Hid (OwnIts ((w3.setCell ⟨w.heap.size + 1, 0, none⟩ (.slice A7 held'.length cap7)).setCell ⟨w.heap.size + 1, 1, none⟩ (.slice A8 asks'.length cap8)) w.heap.size 37 (.slice A7 held'.length cap7) held' vs') :=
          ((HL3.out.h.base (by omega)).grownOther HBY3.out (by decide) (by decide) (grown_set _ _ _ _)).grownOther (HBY3.out.set_ 0 _) (by decide) (by decide) (grown_set _ _ _ _)
        have HAn : Hid (OwnIts ((w3.setCell ⟨w.heap.size + 1, 0, none⟩ (.slice A7 held'.length cap7)).setCell ⟨w.heap.size + 1, 1, none⟩ (.slice A8 asks'.length cap8)) w.heap.size 42 (.slice A8 asks'.length cap8) asks' us') :=
          ((HL3.out.a.base (by omega)).grownOther HBY3.out (by decide) (by decide) (grown_set _ _ _ _)).grownOther (HBY3.out.set_ 0 _) (by decide) (by decide) (grown_set _ _ _ _)
        have HBr := Lib.hid (((HB3.out.setCell (p := ⟨w.heap.size + 1, 0, none⟩) (by simp) (.slice A7 held'.length cap7)).setCell (p := ⟨w.heap.size + 1, 1, none⟩) (by simp) (.slice A8 asks'.length cap8)))
        go_wp2_with fail
        refine bodyPost_ret (v := .tuple #[.agg #[.slice A7 held'.length cap7, .slice A8 asks'.length cap8], .bool g, .int .i64 0]) (by simp [results, Tryz.results18, go_sem, p2]) rfl ?_
        exact ⟨_, _, vs', us', by rw [HE2.out], by rw [HE2.out]; exact HHn.out, by rw [HE2.out]; exact HAn.out, HL3.out.cross, HBr.out⟩
      · have hecb : (ec != 0) = true := by simpa using hec
        have HE2 : Hid (T = (false, ec, [], [])) := by unfold Hid; rw [HE.out]; exact if_neg hec
        clear HE
        have HE := HE2
        go_wp2_with fail
        refine bodyPost_ret (v := .tuple #[.agg #[.slice none 0 0, .slice none 0 0], .bool false, .int .i64 ec]) (by simp [results, Tryz.results18, go_sem, p2]) rfl ?_
        exact ⟨_, _, [], [], by rw [HE.out], by rw [HE.out]; exact own_none _ _ _, by rw [HE.out]; exact own_none _ _ _, by simp, (HB3.out.setCell (by simp) _).setCell (by simp) _⟩
end Go.Proofs.YtiebcdajoddkpaaGreatDoor
