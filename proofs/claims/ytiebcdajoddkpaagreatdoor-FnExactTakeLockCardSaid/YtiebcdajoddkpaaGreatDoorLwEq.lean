/-
  eqLock, eqLockS, eqAsk, eqAskS and eqLocks return true on equal data. (Printed by gen_lweq.py.)
-/
import Derived.Test.YtiebcdajoddkpaaGreatDoorLk2
import Derived.Deep.RegionHeld3
namespace Go.Proofs.YtiebcdajoddkpaaGreatDoor
open Go.RowKit

theorem eqS_same (ss : List ByteArray) : eqS ss ss = true := by simp [eqS]

set_option maxHeartbeats 1000000 in
theorem eqLock_same (c0 c1 c2 c3 d0 d1 d2 d3 : Value) (a : ItD) (w : World) (h : ItR w w.heap.size c0 c1 c2 c3 a) (h' : ItR w w.heap.size d0 d1 d2 d3 a) (hn : a.subs.length ≤ 1048576) :
    Calls Tryz.prog 112 #[.agg #[c0, c1, c2, c3], .agg #[d0, d1, d2, d3]] w fun e w' => e = .returned (.bool true) ∧ Below w.heap.size w w' := by
  obtain ⟨rfl, rfl, rfl, A, n, cap, rfl, hs, _⟩ := h
  obtain ⟨rfl, rfl, rfl, A', n', cap', rfl, hs', _⟩ := h'
  have hn1 := hn
  rw [hs.1] at hn
  rw [hs'.1] at hn1
  have HK := Lib.hid (fun W (hW : Below w.heap.size w W) => eqStringS_any A A' n cap n' cap' a.subs a.subs W (hs.later hW) (hs'.later hW) hn hn1)
  have HB := Lib.hid (fun o o' q => below_drewN ((Below.new w o).later (Below.new _ o')) q)
  clear hs hs' hn hn1
  go_enter Tryz.func112, Tryz.ntmps112
  go_wp2_with fail
  refine (HK.out _ (by exact (Below.new _ _).later (Below.new _ _))).mono ?_
  rw [eqS_same]
  rintro e w1 ⟨rfl, q, rfl⟩
  go_wp2_with fail
  go_ret
  exact ⟨rfl, HB.out _ _ _⟩

set_option maxHeartbeats 1000000 in
theorem eqLockS_same (A A' : Option Addr) (n c n' c' : Nat) (fs : List ItD) (w : World) (h : Its w w.heap.size A n fs) (h' : Its w w.heap.size A' n' fs) (hf : smalls fs) :
    Calls Tryz.prog 69 #[.slice A n c, .slice A' n' c'] w fun e w' => e = .returned (.bool true) ∧ Below w.heap.size w w' := by
  have Hh := Lib.hid h
  have Hh' := Lib.hid h'
  have Hlen := Lib.hid h.1
  have Hf := Lib.hid hf.2
  have hn : n ≤ 1048576 := by rw [← h.1]; exact hf.1
  obtain rfl : n = n' := h.1.symm.trans h'.1
  clear h h' hf
  go_enter Tryz.func69, Tryz.ntmps69
  go_wp2_with fail
  go_loopw [5] (fun i wr => ∃ (k : Nat), k ≤ n ∧ i = .int .i64 k ∧ Below w.heap.size w wr) (fun i _ => n - (intOf i).toNat)
  case atStart => exact ⟨0, Nat.zero_le _, rfl, Below.refl _ _⟩
  case round =>
    obtain ⟨k, hk, rfl, hb⟩ := hrel
    have HB := Lib.hid hb
    clear hb
    by_cases hlt : k < n
    · obtain ⟨b, o, rfl, hbB, hc⟩ := (Hh.out.later HB.out).2 (by omega)
      obtain ⟨c0, c1, c2, c3, k0, k1, k2, k3, hr⟩ := hc k hlt
      obtain ⟨b', o', rfl, hbB', hc'⟩ := (Hh'.out.later HB.out).2 (by omega)
      obtain ⟨d0, d1, d2, d3, m0, m1, m2, m3, hr'⟩ := hc' k hlt
      clear hc hc'
      have hl1 : k < fs.length := by rw [Hlen.out]; exact hlt
      have HK := Lib.hid (fun W (hW : Below wr.heap.size wr W) => eqLock_same c0 c1 c2 c3 d0 d1 d2 d3 _ W (hr.later hW) (hr'.later hW) (Hf.out _ (getD_mem fs k hl1)).2.1)
      clear hr hr' hl1
      go_wp2_with fail
      go_region_held3 (fun w' => w'.cell? ⟨b, o + k * 4, none⟩ = some c0 ∧ w'.cell? ⟨b, o + k * 4 + 1, none⟩ = some c1 ∧ w'.cell? ⟨b, o + k * 4 + 2, none⟩ = some c2 ∧ w'.cell? ⟨b, o + k * 4 + 3, none⟩ = some c3 ∧ w'.cell? ⟨b', o' + k * 4, none⟩ = some d0 ∧ w'.cell? ⟨b', o' + k * 4 + 1, none⟩ = some d1 ∧ w'.cell? ⟨b', o' + k * 4 + 2, none⟩ = some d2 ∧ w'.cell? ⟨b', o' + k * 4 + 3, none⟩ = some d3) (first | exact ⟨k0, k1, k2, k3, m0, m1, m2, m3⟩ | exact ⟨cell_later hb1 k0, cell_later hb1 k1, cell_later hb1 k2, cell_later hb1 k3, cell_later hb1 m0, cell_later hb1 m1, cell_later hb1 m2, cell_later hb1 m3⟩)
        (first
          | (go_at_call 112; refine (HK.out _ (by exact (Below.refl _ _).drew)).mono ?_; rintro e w1 ⟨rfl, hb1'⟩; have hb1 := undrew hb1'; clear hb1'))
      have HB1 := Lib.hid (HB.out.later hb1)
      clear hb1
      go_wp2_with fail
      go_roundw
      case rel => exact ⟨k + 1, by omega, by go_num, HB1.out⟩
      case measure => simp [intOf]; omega
    · go_wp2_with fail
      go_ret
      exact ⟨rfl, HB.out⟩

set_option maxHeartbeats 1000000 in
theorem eqAsk_same (c0 c1 c2 c3 d0 d1 d2 d3 : Value) (a : ItD) (w : World) (h : ItR w w.heap.size c0 c1 c2 c3 a) (h' : ItR w w.heap.size d0 d1 d2 d3 a) (hn : a.subs.length ≤ 1048576) :
    Calls Tryz.prog 113 #[.agg #[c0, c1, c2, c3], .agg #[d0, d1, d2, d3]] w fun e w' => e = .returned (.bool true) ∧ Below w.heap.size w w' := by
  obtain ⟨rfl, rfl, rfl, A, n, cap, rfl, hs, _⟩ := h
  obtain ⟨rfl, rfl, rfl, A', n', cap', rfl, hs', _⟩ := h'
  have hn1 := hn
  rw [hs.1] at hn
  rw [hs'.1] at hn1
  have HK := Lib.hid (fun W (hW : Below w.heap.size w W) => eqStringS_any A A' n cap n' cap' a.subs a.subs W (hs.later hW) (hs'.later hW) hn hn1)
  have HB := Lib.hid (fun o o' q => below_drewN ((Below.new w o).later (Below.new _ o')) q)
  clear hs hs' hn hn1
  go_enter Tryz.func113, Tryz.ntmps113
  go_wp2_with fail
  refine (HK.out _ (by exact (Below.new _ _).later (Below.new _ _))).mono ?_
  rw [eqS_same]
  rintro e w1 ⟨rfl, q, rfl⟩
  go_wp2_with fail
  go_ret
  exact ⟨rfl, HB.out _ _ _⟩

set_option maxHeartbeats 1000000 in
theorem eqAskS_same (A A' : Option Addr) (n c n' c' : Nat) (fs : List ItD) (w : World) (h : Its w w.heap.size A n fs) (h' : Its w w.heap.size A' n' fs) (hf : smalls fs) :
    Calls Tryz.prog 70 #[.slice A n c, .slice A' n' c'] w fun e w' => e = .returned (.bool true) ∧ Below w.heap.size w w' := by
  have Hh := Lib.hid h
  have Hh' := Lib.hid h'
  have Hlen := Lib.hid h.1
  have Hf := Lib.hid hf.2
  have hn : n ≤ 1048576 := by rw [← h.1]; exact hf.1
  obtain rfl : n = n' := h.1.symm.trans h'.1
  clear h h' hf
  go_enter Tryz.func70, Tryz.ntmps70
  go_wp2_with fail
  go_loopw [5] (fun i wr => ∃ (k : Nat), k ≤ n ∧ i = .int .i64 k ∧ Below w.heap.size w wr) (fun i _ => n - (intOf i).toNat)
  case atStart => exact ⟨0, Nat.zero_le _, rfl, Below.refl _ _⟩
  case round =>
    obtain ⟨k, hk, rfl, hb⟩ := hrel
    have HB := Lib.hid hb
    clear hb
    by_cases hlt : k < n
    · obtain ⟨b, o, rfl, hbB, hc⟩ := (Hh.out.later HB.out).2 (by omega)
      obtain ⟨c0, c1, c2, c3, k0, k1, k2, k3, hr⟩ := hc k hlt
      obtain ⟨b', o', rfl, hbB', hc'⟩ := (Hh'.out.later HB.out).2 (by omega)
      obtain ⟨d0, d1, d2, d3, m0, m1, m2, m3, hr'⟩ := hc' k hlt
      clear hc hc'
      have hl1 : k < fs.length := by rw [Hlen.out]; exact hlt
      have HK := Lib.hid (fun W (hW : Below wr.heap.size wr W) => eqAsk_same c0 c1 c2 c3 d0 d1 d2 d3 _ W (hr.later hW) (hr'.later hW) (Hf.out _ (getD_mem fs k hl1)).2.1)
      clear hr hr' hl1
      go_wp2_with fail
      go_region_held3 (fun w' => w'.cell? ⟨b, o + k * 4, none⟩ = some c0 ∧ w'.cell? ⟨b, o + k * 4 + 1, none⟩ = some c1 ∧ w'.cell? ⟨b, o + k * 4 + 2, none⟩ = some c2 ∧ w'.cell? ⟨b, o + k * 4 + 3, none⟩ = some c3 ∧ w'.cell? ⟨b', o' + k * 4, none⟩ = some d0 ∧ w'.cell? ⟨b', o' + k * 4 + 1, none⟩ = some d1 ∧ w'.cell? ⟨b', o' + k * 4 + 2, none⟩ = some d2 ∧ w'.cell? ⟨b', o' + k * 4 + 3, none⟩ = some d3) (first | exact ⟨k0, k1, k2, k3, m0, m1, m2, m3⟩ | exact ⟨cell_later hb1 k0, cell_later hb1 k1, cell_later hb1 k2, cell_later hb1 k3, cell_later hb1 m0, cell_later hb1 m1, cell_later hb1 m2, cell_later hb1 m3⟩)
        (first
          | (go_at_call 113; refine (HK.out _ (by exact (Below.refl _ _).drew)).mono ?_; rintro e w1 ⟨rfl, hb1'⟩; have hb1 := undrew hb1'; clear hb1'))
      have HB1 := Lib.hid (HB.out.later hb1)
      clear hb1
      go_wp2_with fail
      go_roundw
      case rel => exact ⟨k + 1, by omega, by go_num, HB1.out⟩
      case measure => simp [intOf]; omega
    · go_wp2_with fail
      go_ret
      exact ⟨rfl, HB.out⟩

set_option maxHeartbeats 1000000 in
theorem eqLocks_same (A A' B B' : Option Addr) (n c n' c' m d m' d' : Nat) (held asks : List ItD) (w : World) (h : Its w w.heap.size A n held) (ha : Its w w.heap.size A' n' asks) (k : Its w w.heap.size B m held) (ka : Its w w.heap.size B' m' asks) (hs : smalls held) (hsa : smalls asks) :
    Calls Tryz.prog 29 #[.agg #[.slice A n c, .slice A' n' c'], .agg #[.slice B m d, .slice B' m' d']] w fun e w' => e = .returned (.bool true) ∧ Below w.heap.size w w' := by
  have HK1 := Lib.hid (fun W (hW : Below w.heap.size w W) => eqLockS_same A B n c m d held W (h.later hW) (k.later hW) hs)
  have HK2 := Lib.hid (fun W (hW : Below w.heap.size w W) => eqAskS_same A' B' n' c' m' d' asks W (ha.later hW) (ka.later hW) hsa)
  clear h ha k ka hs hsa
  go_enter Tryz.func29, Tryz.ntmps29
  go_wp2_with fail
  refine (HK1.out _ (by exact (Below.new _ _).later (Below.new _ _))).mono ?_
  rintro e w1 ⟨rfl, hb1⟩
  have HB := Lib.hid (((Below.new _ _).later (Below.new _ _)).later hb1)
  have p0 := (Blk.later (heap_two0 w _ _) hb1 (by simp; omega)).cell 1
  have p1 := (Blk.later (heap_two1 w _ _) hb1 (by simp)).cell 1
  have z1 := hb1.size
  simp at p0 p1 z1
  clear hb1
  go_wp2_with fail
  refine (HK2.out _ HB.out).mono ?_
  rintro e w2 ⟨rfl, hb2⟩
  have HB2 := Lib.hid (HB.out.later hb2)
  clear hb2
  go_wp2_with fail
  go_ret
  exact ⟨rfl, HB2.out⟩
end Go.Proofs.YtiebcdajoddkpaaGreatDoor
