/-
  Locks of the program, behind a pointer: what hold, room and blocks compute.
-/
import Derived.Test.YtiebcdajoddkpaaGreatDoorLkI6
namespace Go.Proofs.YtiebcdajoddkpaaGreatDoor
open Go.RowKit

/-- Whether the binary search may be used: whoever stands behind a thing, all behind it do. -/
def monoI (held : List ItD) (t : ItD) : Prop := ∀ i j, i ≤ j → j < held.length → cmpIt (held.getD j default) t < 0 → cmpIt (held.getD i default) t < 0
def tgt (job : Int) (nm : ByteArray) (ss : List ByteArray) : ItD := ⟨job, 0, nm, ss⟩

set_option maxHeartbeats 400000 in
theorem hold_any (p : Nat) (held asks : List ItD) (job : Int) (nm : ByteArray) (S : Option Addr) (m q : Nat) (ss : List ByteArray) (w : World) (htab : tabT w) (h : LkV w p held asks) (hs : smalls held) (hS : Strs w w.heap.size S m ss) (hmq : m ≤ q) (hst : (tgt job nm ss).small) (hmono : monoI held (tgt job nm ss)) :
    Calls Tryz.prog 62 #[.pointer (some ⟨p, 0, none⟩), .int .i64 job, .string nm, .slice S m q] w (SearchPost held (tgt job nm ss) w) := by
  obtain ⟨hp, A, c, A', c', h0, h1, hc, hc', hi, hi'⟩ := h
  have HK := Lib.hid (BinarySearch_any A held.length c held (.int .i64 job) (.int .i64 0) (.string nm) (.slice S m q) (tgt job nm ss) w htab hi hs ⟨rfl, rfl, rfl, S, m, q, rfl, hS, hmq⟩ hst hmono)
  clear htab hi hi' hS hst hmono hs
  generalize held.length = n at *
  go_enter Tryz.func62, Tryz.ntmps62
  go_wp2_with fail
  refine HK.out.mono ?_
  rintro e w1 ⟨rfl, hb1⟩
  have HB := Lib.hid hb1
  clear hb1
  generalize hx : posI held (tgt job nm ss) = x at *
  generalize hy : foundI held (tgt job nm ss) = y at *
  have HX := Lib.hid hx
  have HY := Lib.hid hy
  clear hx hy
  go_wp2_with fail
  go_ret2
  unfold SearchPost
  rw [HX.out, HY.out]
  exact ⟨rfl, HB.out⟩

def roomI (held : List ItD) (t : ItD) : Bool := if foundI held t = true then decide ((held.getD (posI held t) default).b < 9) else decide (held.length < 16)
set_option maxHeartbeats 400000 in
theorem room_any (p : Nat) (held asks : List ItD) (job : Int) (nm : ByteArray) (S : Option Addr) (m q : Nat) (ss : List ByteArray) (w : World) (htab : tabT w) (h : LkV w p held asks) (hs : smalls held) (hS : Strs w w.heap.size S m ss) (hmq : m ≤ q) (hst : (tgt job nm ss).small) (hmono : monoI held (tgt job nm ss)) :
    Calls Tryz.prog 90 #[.pointer (some ⟨p, 0, none⟩), .int .i64 job, .string nm, .slice S m q] w fun e w' => e = .returned (.bool (roomI held (tgt job nm ss))) ∧ Below w.heap.size w w' := by
  have HK := Lib.hid (hold_any p held asks job nm S m q ss w htab h hs hS hmq hst hmono)
  have HV := Lib.hid h
  have hn := hs.1
  have HR : Hid (roomI held (tgt job nm ss) = if foundI held (tgt job nm ss) = true then decide ((held.getD (posI held (tgt job nm ss)) default).b < 9) else decide (held.length < 16)) := rfl
  have hfl : foundI held (tgt job nm ss) = true → posI held (tgt job nm ss) < held.length := fun hf => by
    unfold foundI at hf
    rw [Bool.and_eq_true, decide_eq_true_iff] at hf
    exact hf.1
  have HFL := Lib.hid hfl
  clear htab h hs hS hst hmono hfl
  generalize roomI held (tgt job nm ss) = R at *
  go_enter Tryz.func90, Tryz.ntmps90
  go_wp2_with fail
  refine HK.out.mono ?_
  rintro e w1 ⟨rfl, hb1⟩
  have HB := Lib.hid hb1
  obtain ⟨hp, A, c, A', c', h0, h1, hc, hc', hi, hi'⟩ := HV.out.later hb1
  have HI := Lib.hid hi
  clear hb1 hi hi' h1 hc' HK
  generalize posI held (tgt job nm ss) = x at *
  generalize foundI held (tgt job nm ss) = y at *
  cases y
  · have HE : Hid (R = decide (held.length < 16)) := by unfold Hid; rw [HR.out]; rfl
    generalize held.length = n at *
    go_wp2_with fail
    go_ret
    exact ⟨ret_bool (by rw [HE.out, Bool.eq_iff_iff, decide_eq_true_iff, decide_eq_true_iff]; omega), HB.out⟩
  · have hlt := HFL.out rfl
    have HE : Hid (R = decide ((held.getD x default).b < 9)) := by unfold Hid; rw [HR.out]; rfl
    obtain ⟨bb, o, rfl, hbB, hcl⟩ := HI.out.2 (by omega)
    obtain ⟨c0, c1, c2, c3, k0, k1, k2, k3, hr⟩ := hcl x hlt
    obtain ⟨_, rfl, _, _⟩ := hr
    clear hcl k0 k2 k3
    generalize (held.getD x default).b = bv at *
    generalize held.length = n at *
    go_wp2_with fail
    go_ret
    exact ⟨ret_bool HE.out.symm, HB.out⟩

set_option maxHeartbeats 400000 in
theorem blocks1_any (g1 g2 g3 : Nat) (job : Int) (nm : ByteArray) (S : Option Addr) (m q : Nat) (ss : List ByteArray) (c0 c1 c2 c3 : Value) (f : ItD) (w : World) (h : ItR w w.heap.size c0 c1 c2 c3 f) (hf : f.small) (hg1 : g1 < w.heap.size) (hg2 : g2 < w.heap.size) (hg3 : g3 < w.heap.size)
    (b1 : w.cell? ⟨g1, 0, none⟩ = some (.int .i64 job)) (b2 : w.cell? ⟨g2, 0, none⟩ = some (.string nm)) (b3 : w.cell? ⟨g3, 0, none⟩ = some (.slice S m q)) (hS : Strs w w.heap.size S m ss) (hm : m ≤ 1048576) (hmq : m ≤ q) :
    Calls Tryz.prog 149 #[.agg #[c0, c1, c2, c3], .pointer (some ⟨g1, 0, none⟩), .pointer (some ⟨g2, 0, none⟩), .pointer (some ⟨g3, 0, none⟩)] w fun e w' => e = .returned (.bool (heldP job nm ss f)) ∧ Below w.heap.size w w' := by
  obtain ⟨rfl, rfl, rfl, A, n, cap, rfl, h3, hcap⟩ := h
  have hn : n ≤ 1048576 := by rw [← h3.1]; exact hf.2.1
  have HK := Lib.hid (fun W (hW : Below w.heap.size w W) => conflict_any f.name nm A S n cap m q f.subs ss W (h3.later hW) (hS.later hW) hn hm hcap hmq)
  have HP : Hid (heldP job nm ss f = (decide (f.a = job) && wayB f.name f.subs nm ss)) := rfl
  clear h3 hS hf
  generalize heldP job nm ss f = R at *
  generalize wayB f.name f.subs nm ss = x at *
  generalize f.a = fa at *
  by_cases hj : fa = job
  · subst hj
    have HE : Hid (R = x) := by unfold Hid; rw [HP.out]; simp
    go_enter Tryz.func149, Tryz.ntmps149
    go_wp2_with fail
    refine (HK.out _ (Below.new _ _)).mono ?_
    rintro e w1 ⟨rfl, q1, rfl⟩
    go_wp2_with fail
    go_ret
    exact ⟨ret_bool HE.out.symm, below_drewN (Below.new _ _) _⟩
  · have hb : (fa == job) = false := by rw [beq_eq_false_iff_ne]; exact hj
    have HE : Hid (R = false) := by unfold Hid; rw [HP.out]; simp [hj]
    clear hj
    go_enter Tryz.func149, Tryz.ntmps149
    go_wp2_with fail
    go_ret
    exact ⟨ret_bool HE.out.symm, Below.new _ _⟩

set_option maxHeartbeats 1000000 in
theorem blocks_any (p : Nat) (held asks : List ItD) (job : Int) (nm : ByteArray) (S : Option Addr) (m q : Nat) (ss : List ByteArray) (w : World) (h : LkV w p held asks) (hs : smalls held) (hS : Strs w w.heap.size S m ss) (hm : m ≤ 1048576) (hmq : m ≤ q) :
    Calls Tryz.prog 131 #[.pointer (some ⟨p, 0, none⟩), .int .i64 job, .string nm, .slice S m q] w fun e w' => e = .returned (.bool (heldUp held job nm ss)) ∧ Below w.heap.size w w' := by
  have eg : ∀ args w, (callFunc 149 args).run Tryz.prog w = .ok (.enter 149 args) w := enters_of Tryz.func149 (by kernel_rfl) rfl
  obtain ⟨W, hW⟩ : ∃ W : World, W = ((w.alloc (.cells #[.int .i64 job] 2)).alloc (.cells #[.string nm] 9)).alloc (.cells #[.slice S m q] 35) := ⟨_, rfl⟩
  have hBW : Below w.heap.size w W := by rw [hW]; exact ((Below.new _ _).later (Below.new _ _)).later (Below.new _ _)
  have x1 : W.cell? ⟨w.heap.size, 0, none⟩ = some (.int .i64 job) := by rw [hW]; exact (show Blk _ _ _ _ from heap_new0 w _ _ _).cell 0
  have x2 : W.cell? ⟨w.heap.size + 1, 0, none⟩ = some (.string nm) := by rw [hW]; exact (show Blk _ _ _ _ from heap_new1 w _ _ _).cell 0
  have x3 : W.cell? ⟨w.heap.size + 1 + 1, 0, none⟩ = some (.slice S m q) := by rw [hW]; exact (show Blk _ _ _ _ from heap_new2 w _ _ _).cell 0
  have hz : W.heap.size = w.heap.size + 1 + 1 + 1 := by rw [hW]; simp
  obtain ⟨hp, A, c, A', c', h0, h1, hc, hc', hi, hi'⟩ := h.later hBW
  have HK := ContainsFuncL_any 149 #[.pointer (some ⟨w.heap.size, 0, none⟩), .pointer (some ⟨w.heap.size + 1, 0, none⟩), .pointer (some ⟨w.heap.size + 1 + 1, 0, none⟩)] (heldP job nm ss) A held.length c held W hi hs.1 eg
    (fun f hf b0 b1 b2 b3 V hV hrf => blocks1_any w.heap.size (w.heap.size + 1) (w.heap.size + 1 + 1) job nm S m q ss b0 b1 b2 b3 f V hrf (hs.2 f hf) (by have := hV.size; omega) (by have := hV.size; omega) (by have := hV.size; omega) (cell_later hV x1) (cell_later hV x2) (cell_later hV x3) ((hS.later hBW).later hV) hm hmq)
  rw [hW] at HK
  have HK := Lib.hid HK
  have HE : Hid (held.any (heldP job nm ss) = heldUp held job nm ss) := rfl
  have HBW := Lib.hid (hW ▸ hBW)
  obtain ⟨hpw, B, d, B', d', g0, g1, _⟩ := h
  have hAe : (Value.slice A held.length c) = .slice B held.length d := by
    have := cell_later hBW g0
    rw [h0] at this
    injection this
  have HAe := Lib.hid hAe
  clear eg h1 hi hi' hS hs x1 x2 x3 hz hBW h0 hp hAe
  subst hW
  generalize heldUp held job nm ss = R at *
  generalize held.any (heldP job nm ss) = x at *
  rw [HAe.out] at HK
  generalize held.length = n at *
  have hp1 : p < w.heap.size + 1 := by omega
  have hp2 : p < w.heap.size + 1 + 1 := by omega
  go_enter Tryz.func131, Tryz.ntmps131
  go_wp2_with fail
  refine HK.out.mono ?_
  rintro e w1 ⟨rfl, hb1⟩
  have HB := Lib.hid (HBW.out.later hb1)
  clear hb1
  go_wp2_with fail
  go_ret
  exact ⟨ret_bool HE.out, HB.out⟩
end Go.Proofs.YtiebcdajoddkpaaGreatDoor
