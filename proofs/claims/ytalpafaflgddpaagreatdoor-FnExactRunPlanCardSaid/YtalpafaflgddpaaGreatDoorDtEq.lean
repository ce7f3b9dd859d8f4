/-
  eqX and eqXS of the struct types return true on equal data. (Printed by gen_dteq.py.)
-/
import Derived.Test.YtalpafaflgddpaaGreatDoorDtTo
import Derived.Deep.RegionHeld3
namespace Go.Proofs.YtalpafaflgddpaaGreatDoor
open Go.RowKit
set_option linter.unusedVariables false

theorem eqS_sameD (ss : List ByteArray) : eqS ss ss = true := by simp [eqS]
theorem eqStringS_same (A A' : Option Addr) (n c n' c' : Nat) (ss : List ByteArray) (w : World) (h : Strs w w.heap.size A n ss) (h' : Strs w w.heap.size A' n' ss) (hn : ss.length ≤ 1048576) :
    Calls Tryz.prog 49 #[.slice A n c, .slice A' n' c'] w fun e w' => e = .returned (.bool true) ∧ ∃ q, w' = w.drewN q := by
  have h1 := eqStringS_any A A' n c n' c' ss ss w h h' (by rw [← h.1]; exact hn) (by rw [← h'.1]; exact hn)
  rw [eqS_sameD] at h1
  exact h1

set_option maxHeartbeats 2000000 in
theorem eqNode_same (c0 c1 c2 d0 d1 d2 : Value) (a : NodeD) (w : World) (h : NodeR w w.heap.size c0 c1 c2 a) (h' : NodeR w w.heap.size d0 d1 d2 a) (hs : a.small) :
    Calls Tryz.prog 80 #[.agg #[c0, c1, c2], .agg #[d0, d1, d2]] w fun e w' => e = .returned (.bool true) ∧ Below w.heap.size w w' := by
  obtain ⟨rfl, ⟨A1, n1, p1, rfl, s1, k1⟩, rfl⟩ := h
  obtain ⟨rfl, ⟨B1, m1, q1, rfl, t1, l1⟩, rfl⟩ := h'
  have HK1 := Lib.hid (fun W (hW : Below w.heap.size w W) => eqStringS_same A1 B1 n1 p1 m1 q1 a.subs W (s1.later hW) (t1.later hW) hs.2.1.1)
  clear s1 t1
  clear hs
  have HB0 := Lib.hid (fun o o' => (Below.new w o).later (Below.new _ o'))
  go_enter Tryz.func80, Tryz.ntmps80
  go_wp2_with fail
  refine (HK1.out _ (by exact HB0.out _ _)).mono ?_
  rintro e w1 ⟨rfl, q1, rfl⟩
  go_wp2_with fail
  go_ret
  exact ⟨rfl, below_drewN (HB0.out _ _) _⟩

set_option maxHeartbeats 2000000 in
theorem eqNodeS_same (A A' : Option Addr) (n c n' c' : Nat) (fs : List NodeD) (w : World) (h : Nodes w w.heap.size A n fs) (h' : Nodes w w.heap.size A' n' fs) (hf : fs.length ≤ 1048576 ∧ ∀ d ∈ fs, d.small) :
    Calls Tryz.prog 48 #[.slice A n c, .slice A' n' c'] w fun e w' => e = .returned (.bool true) ∧ Below w.heap.size w w' := by
  have Hh := Lib.hid h
  have Hh' := Lib.hid h'
  have Hlen := Lib.hid h.1
  have Hf := Lib.hid hf.2
  have hn : n ≤ 1048576 := by rw [← h.1]; exact hf.1
  obtain rfl : n = n' := h.1.symm.trans h'.1
  clear h h' hf
  go_enter Tryz.func48, Tryz.ntmps48
  go_wp2_with fail
  go_loopw [5] (fun i wr => ∃ (k : Nat), k ≤ n ∧ i = .int .i64 k ∧ Below w.heap.size w wr) (fun i _ => n - (intOf i).toNat)
  case atStart => exact ⟨0, Nat.zero_le _, rfl, Below.refl _ _⟩
  case round =>
    obtain ⟨k, hk, rfl, hb⟩ := hrel
    have HB := Lib.hid hb
    clear hb
    by_cases hlt : k < n
    · obtain ⟨b, o, rfl, hbB, hc⟩ := (Hh.out.later HB.out).2 (by omega)
      obtain ⟨c0, c1, c2, k0, k1, k2, hr⟩ := hc k hlt
      obtain ⟨b1, o1, rfl, hbB', hc'⟩ := (Hh'.out.later HB.out).2 (by omega)
      obtain ⟨d0, d1, d2, m0, m1, m2, hr'⟩ := hc' k hlt
      clear hc hc'
      have hl1 : k < fs.length := by rw [Hlen.out]; exact hlt
      have HK := Lib.hid (fun W (hW : Below wr.heap.size wr W) => eqNode_same c0 c1 c2 d0 d1 d2 _ W (hr.later hW) (hr'.later hW) (Hf.out _ (getD_memD fs k hl1)))
      clear hr hr' hl1
      go_wp2_with fail
      go_region_held3 (fun w' => w'.cell? ⟨b, o + k * 3, none⟩ = some c0 ∧ w'.cell? ⟨b, o + k * 3 + 1, none⟩ = some c1 ∧ w'.cell? ⟨b, o + k * 3 + 2, none⟩ = some c2 ∧ w'.cell? ⟨b1, o1 + k * 3, none⟩ = some d0 ∧ w'.cell? ⟨b1, o1 + k * 3 + 1, none⟩ = some d1 ∧ w'.cell? ⟨b1, o1 + k * 3 + 2, none⟩ = some d2) (first | exact ⟨k0, k1, k2, m0, m1, m2⟩ | exact ⟨cell_later hb1 k0, cell_later hb1 k1, cell_later hb1 k2, cell_later hb1 m0, cell_later hb1 m1, cell_later hb1 m2⟩)
        (first
          | (go_at_call 80; refine (HK.out _ (by exact (Below.refl _ _).drew)).mono ?_; rintro e w1 ⟨rfl, hb1'⟩; have hb1 := undrew hb1'; clear hb1'))
      have HB1 := Lib.hid (HB.out.later hb1)
      clear hb1
      go_wp2_with fail
      go_roundw
      case rel => exact ⟨k + 1, by omega, by go_num, HB1.out⟩
      case measure => simp [intOf]; omega
    · go_wp2_with fail
      go_ret
      exact ⟨rfl, HB.out⟩

set_option maxHeartbeats 2000000 in
theorem eqCond_same (c0 c1 c2 d0 d1 d2 : Value) (a : CondD) (w : World) (h : CondR w w.heap.size c0 c1 c2 a) (h' : CondR w w.heap.size d0 d1 d2 a) (hs : a.small) :
    Calls Tryz.prog 81 #[.agg #[c0, c1, c2], .agg #[d0, d1, d2]] w fun e w' => e = .returned (.bool true) ∧ Below w.heap.size w w' := by
  obtain ⟨rfl, rfl, rfl⟩ := h
  obtain ⟨rfl, rfl, rfl⟩ := h'
  clear hs
  have HB0 := Lib.hid (fun o o' => (Below.new w o).later (Below.new _ o'))
  go_enter Tryz.func81, Tryz.ntmps81
  go_wp2_with fail
  go_ret
  exact ⟨rfl, HB0.out _ _⟩

set_option maxHeartbeats 2000000 in
theorem eqCondS_same (A A' : Option Addr) (n c n' c' : Nat) (fs : List CondD) (w : World) (h : Conds w w.heap.size A n fs) (h' : Conds w w.heap.size A' n' fs) (hf : fs.length ≤ 1048576 ∧ ∀ d ∈ fs, d.small) :
    Calls Tryz.prog 50 #[.slice A n c, .slice A' n' c'] w fun e w' => e = .returned (.bool true) ∧ Below w.heap.size w w' := by
  have Hh := Lib.hid h
  have Hh' := Lib.hid h'
  have Hlen := Lib.hid h.1
  have Hf := Lib.hid hf.2
  have hn : n ≤ 1048576 := by rw [← h.1]; exact hf.1
  obtain rfl : n = n' := h.1.symm.trans h'.1
  clear h h' hf
  go_enter Tryz.func50, Tryz.ntmps50
  go_wp2_with fail
  go_loopw [5] (fun i wr => ∃ (k : Nat), k ≤ n ∧ i = .int .i64 k ∧ Below w.heap.size w wr) (fun i _ => n - (intOf i).toNat)
  case atStart => exact ⟨0, Nat.zero_le _, rfl, Below.refl _ _⟩
  case round =>
    obtain ⟨k, hk, rfl, hb⟩ := hrel
    have HB := Lib.hid hb
    clear hb
    by_cases hlt : k < n
    · obtain ⟨b, o, rfl, hbB, hc⟩ := (Hh.out.later HB.out).2 (by omega)
      obtain ⟨c0, c1, c2, k0, k1, k2, hr⟩ := hc k hlt
      obtain ⟨b1, o1, rfl, hbB', hc'⟩ := (Hh'.out.later HB.out).2 (by omega)
      obtain ⟨d0, d1, d2, m0, m1, m2, hr'⟩ := hc' k hlt
      clear hc hc'
      have hl1 : k < fs.length := by rw [Hlen.out]; exact hlt
      have HK := Lib.hid (fun W (hW : Below wr.heap.size wr W) => eqCond_same c0 c1 c2 d0 d1 d2 _ W (hr.later hW) (hr'.later hW) (Hf.out _ (getD_memD fs k hl1)))
      clear hr hr' hl1
      go_wp2_with fail
      go_region_held3 (fun w' => w'.cell? ⟨b, o + k * 3, none⟩ = some c0 ∧ w'.cell? ⟨b, o + k * 3 + 1, none⟩ = some c1 ∧ w'.cell? ⟨b, o + k * 3 + 2, none⟩ = some c2 ∧ w'.cell? ⟨b1, o1 + k * 3, none⟩ = some d0 ∧ w'.cell? ⟨b1, o1 + k * 3 + 1, none⟩ = some d1 ∧ w'.cell? ⟨b1, o1 + k * 3 + 2, none⟩ = some d2) (first | exact ⟨k0, k1, k2, m0, m1, m2⟩ | exact ⟨cell_later hb1 k0, cell_later hb1 k1, cell_later hb1 k2, cell_later hb1 m0, cell_later hb1 m1, cell_later hb1 m2⟩)
        (first
          | (go_at_call 81; refine (HK.out _ (by exact (Below.refl _ _).drew)).mono ?_; rintro e w1 ⟨rfl, hb1'⟩; have hb1 := undrew hb1'; clear hb1'))
      have HB1 := Lib.hid (HB.out.later hb1)
      clear hb1
      go_wp2_with fail
      go_roundw
      case rel => exact ⟨k + 1, by omega, by go_num, HB1.out⟩
      case measure => simp [intOf]; omega
    · go_wp2_with fail
      go_ret
      exact ⟨rfl, HB.out⟩

set_option maxHeartbeats 2000000 in
theorem eqTree_same (c0 d0 : Value) (a : TreeD) (w : World) (h : TreeR w w.heap.size c0 a) (h' : TreeR w w.heap.size d0 a) (hs : a.small) :
    Calls Tryz.prog 16 #[.agg #[c0], .agg #[d0]] w fun e w' => e = .returned (.bool true) ∧ Below w.heap.size w w' := by
  obtain ⟨A0, n0, p0, rfl, s0, k0⟩ := h
  obtain ⟨B0, m0, q0, rfl, t0, l0⟩ := h'
  have HK0 := Lib.hid (fun W (hW : Below w.heap.size w W) => eqNodeS_same A0 B0 n0 p0 m0 q0 a.nodes W (s0.later hW) (t0.later hW) hs)
  clear s0 t0
  clear hs
  have HB0 := Lib.hid (fun o o' => (Below.new w o).later (Below.new _ o'))
  go_enter Tryz.func16, Tryz.ntmps16
  go_wp2_with fail
  refine (HK0.out _ (by exact HB0.out _ _)).mono ?_
  rintro e w0 ⟨rfl, hb0⟩
  have z0 := hb0.size
  simp at z0
  have HB := Lib.hid ((HB0.out _ _).later hb0)
  clear hb0
  go_wp2_with fail
  go_ret
  exact ⟨rfl, HB.out⟩

set_option maxHeartbeats 2000000 in
theorem eqTable_same (c0 c1 c2 c3 d0 d1 d2 d3 : Value) (a : TableD) (w : World) (h : TableR w w.heap.size c0 c1 c2 c3 a) (h' : TableR w w.heap.size d0 d1 d2 d3 a) (hs : a.small) :
    Calls Tryz.prog 17 #[.agg #[c0, c1, c2, c3], .agg #[d0, d1, d2, d3]] w fun e w' => e = .returned (.bool true) ∧ Below w.heap.size w w' := by
  obtain ⟨rfl, rfl, ⟨A2, n2, p2, rfl, s2, k2⟩, ⟨A3, n3, p3, rfl, s3, k3⟩⟩ := h
  obtain ⟨rfl, rfl, ⟨B2, m2, q2, rfl, t2, l2⟩, ⟨B3, m3, q3, rfl, t3, l3⟩⟩ := h'
  have HK2 := Lib.hid (fun W (hW : Below w.heap.size w W) => eqStringS_same A2 B2 n2 p2 m2 q2 a.cols W (s2.later hW) (t2.later hW) hs.2.2.1.1)
  clear s2 t2
  have HK3 := Lib.hid (fun W (hW : Below w.heap.size w W) => eqStringS_same A3 B3 n3 p3 m3 q3 a.idx W (s3.later hW) (t3.later hW) hs.2.2.2.1)
  clear s3 t3
  clear hs
  have HB0 := Lib.hid (fun o o' => (Below.new w o).later (Below.new _ o'))
  go_enter Tryz.func17, Tryz.ntmps17
  go_wp2_with fail
  refine (HK2.out _ (by exact HB0.out _ _)).mono ?_
  rintro e w2 ⟨rfl, q2, rfl⟩
  go_wp2_with fail
  refine (HK3.out _ (by exact below_drewN (HB0.out _ _) _)).mono ?_
  rintro e w3 ⟨rfl, q3, rfl⟩
  go_wp2_with fail
  go_ret
  exact ⟨rfl, below_drewN (HB0.out _ _) _⟩

set_option maxHeartbeats 2000000 in
theorem eqQuery_same (c0 c1 c2 c3 c4 c5 d0 d1 d2 d3 d4 d5 : Value) (a : QueryD) (w : World) (h : QueryR w w.heap.size c0 c1 c2 c3 c4 c5 a) (h' : QueryR w w.heap.size d0 d1 d2 d3 d4 d5 a) (hs : a.small) :
    Calls Tryz.prog 18 #[.agg #[c0, c1, c2, c3, c4, c5], .agg #[d0, d1, d2, d3, d4, d5]] w fun e w' => e = .returned (.bool true) ∧ Below w.heap.size w w' := by
  obtain ⟨rfl, ⟨A1, n1, p1, rfl, s1, k1⟩, ⟨A2, n2, p2, rfl, s2, k2⟩, rfl, rfl, rfl⟩ := h
  obtain ⟨rfl, ⟨B1, m1, q1, rfl, t1, l1⟩, ⟨B2, m2, q2, rfl, t2, l2⟩, rfl, rfl, rfl⟩ := h'
  have HK1 := Lib.hid (fun W (hW : Below w.heap.size w W) => eqStringS_same A1 B1 n1 p1 m1 q1 a.cols W (s1.later hW) (t1.later hW) hs.2.1.1)
  clear s1 t1
  have HK2 := Lib.hid (fun W (hW : Below w.heap.size w W) => eqCondS_same A2 B2 n2 p2 m2 q2 a.wher W (s2.later hW) (t2.later hW) hs.2.2.1)
  clear s2 t2
  clear hs
  have HB0 := Lib.hid (fun o o' => (Below.new w o).later (Below.new _ o'))
  go_enter Tryz.func18, Tryz.ntmps18
  go_wp2_with fail
  refine (HK1.out _ (by exact HB0.out _ _)).mono ?_
  rintro e w1 ⟨rfl, q1, rfl⟩
  go_wp2_with fail
  refine (HK2.out _ (by exact below_drewN (HB0.out _ _) _)).mono ?_
  rintro e w2 ⟨rfl, hb2⟩
  replace hb2 := undrewN hb2
  have e3 := (Blk.later (heap_two0 w _ _) hb2 (by first | (simp; done) | (simp; omega))).cell 3
  have g3 := (Blk.later (heap_two1 w _ _) hb2 (by first | (simp; done) | (simp; omega))).cell 3
  simp at e3 g3
  have e4 := (Blk.later (heap_two0 w _ _) hb2 (by first | (simp; done) | (simp; omega))).cell 4
  have g4 := (Blk.later (heap_two1 w _ _) hb2 (by first | (simp; done) | (simp; omega))).cell 4
  simp at e4 g4
  have e5 := (Blk.later (heap_two0 w _ _) hb2 (by first | (simp; done) | (simp; omega))).cell 5
  have g5 := (Blk.later (heap_two1 w _ _) hb2 (by first | (simp; done) | (simp; omega))).cell 5
  simp at e5 g5
  have z2 := hb2.size
  simp at z2
  have HB := Lib.hid ((HB0.out _ _).later hb2)
  clear hb2
  go_wp2_with fail
  go_ret
  exact ⟨rfl, HB.out⟩
end Go.Proofs.YtalpafaflgddpaaGreatDoor
