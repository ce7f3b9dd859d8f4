/-
  Drawn locks with a job, with a tick: DrawDropAll, DrawExpire. (Printed by gen_dr4.py.) The reference's SameLocks at equal locks, and its LockCount at right ones. Helpers of the lock laws: c2Big, c2Ints at equal rows, c2Has. Locks, plainly: what a lock that is taken comes to; what is given back again. What the program's drop makes, what its DropLock answers. The program's LockCount and WaitsFor at right locks. Drawn names; DrawTakeLock. (Printed by gen_dr5.py.) FnLocksBack returns true at all bytes: the walk.
-/
import Derived.Test.YtiebcdajoddkpaaGreatDoorDr3
import Derived.Test.YtiebcdajoddkpaaGreatDoorGs6
import Derived.Test.YtiebcdajoddkpaaGreatDoorLk3
import Derived.Test.YtiebcdajoddkpaaGreatDoorGi3
namespace Go.Proofs.YtiebcdajoddkpaaGreatDoor
open Go.RowKit
set_option linter.unusedVariables false

theorem l00From_any (A : Option Addr) (n c : Nat) (w : World) (h : BytesR w w.heap.size A n) (hn : n ≤ 1048576) :
    Calls Tryz.prog 34 #[.slice A n c] w fun e w' => e = .returned (.pointer (some ⟨w.heap.size, 0, none⟩)) ∧ SrcR w' w.heap.size 0 ∧ Below w.heap.size w w' := by
  have H := Lib.hid h
  clear h
  go_enter Tryz.func34, Tryz.ntmps34
  go_wp2_with fail
  go_ret
  exact ⟨rfl, ⟨A, n, c, 0, 0, heap_last rfl, H.out.later (fun i hi => Below.heap_alloc _ _ _ hi), Nat.le_refl _, hn, by omega⟩, Below.new _ _⟩

/-- Drawn locks, and a number. -/
def DrawnPost (w : World) (e : Ending) (w' : World) : Prop :=
  ∃ v0 v1 held asks vs us x, e = .returned (.tuple #[.agg #[v0, v1], .int .i64 x]) ∧ OwnIts w' w.heap.size 37 v0 held vs ∧ OwnIts w' w.heap.size 42 v1 asks us ∧ smalls held ∧ smalls asks ∧ Below w.heap.size w w'
theorem Drawn.below {p K B : Nat} {a b w : World} (h0 : Below B w a) (h : Drawn p K a b) (hp : B ≤ p) (hB : B ≤ w.heap.size) : Below B w b := Chg.below h0 h.chg (fun g e => by rw [e]; exact hp) hB
theorem BytesR.later' {w w' : World} {A : Option Addr} {n : Nat} (h : BytesR w w.heap.size A n) (hb : Below w.heap.size w w') : BytesR w' w'.heap.size A n := fun hn => by
  obtain ⟨b, o, e, hb1, hc⟩ := h hn
  refine ⟨b, o, e, Nat.lt_of_lt_of_le hb1 hb.size, fun j hj => ?_⟩
  obtain ⟨x, h1, h2⟩ := hc j hj
  exact ⟨x, cell_later hb h1, h2⟩

set_option maxRecDepth 100000 in
set_option maxHeartbeats 4000000 in
theorem DrawDropAll_any (A : Option Addr) (n c : Nat) (w : World) (h : BytesR w w.heap.size A n) (hn : n ≤ 1048576) :
    Calls Tryz.prog 8 #[.slice A n c] w (DrawnPost w) := by
  have HK1 := Lib.hid (l00From_any A n c _ (BytesR.later' h (Below.new w (.cells #[.slice none 0 0, .slice none 0 0] 27))) hn)
  clear h
  go_enter Tryz.func8, Tryz.ntmps8
  go_wp2_with fail
  refine HK1.out.mono ?_
  rintro e w1 ⟨rfl, hs1, hb1⟩
  have ep : (w.alloc (.cells #[.slice none 0 0, .slice none 0 0] 27)).heap.size = w.heap.size + 1 := by simp
  rw [ep] at hs1 hb1
  have hr1 : Blk w1 w.heap.size 27 #[.slice none 0 0, .slice none 0 0] := Blk.later (heap_last rfl) hb1 (by omega)
  have hl1 : Below w.heap.size w w1 := (Below.new w _).trans (hb1.mono (by omega))
  have HR1 := Lib.hid hr1
  have HL1 := Lib.hid hl1
  have HK2 := Lib.hid (l24Bent_any (w.heap.size + 1) 0 w1 hs1 (by omega))
  have hw1 := hb1.size
  clear hs1 hb1 HK1 hr1 hl1
  go_wp2_with fail
  refine HK2.out.mono ?_
  rintro e w2 ⟨v0, v1, held, asks, vs, us, rfl, g0, g1, gx, hsm0, hsm1, hd2⟩
  obtain ⟨A0, c0, rfl, _, _, _⟩ := own_slice g0.row
  obtain ⟨A1, c1, rfl, _, _, _⟩ := own_slice g1.row
  have hpw : w.heap.size + 1 < w2.heap.size := hd2.lt
  have HR2 := Lib.hid (HR1.out.drawn hd2 (by omega))
  have HL2 := Lib.hid (Drawn.below HL1.out hd2 (Nat.le_succ _) (Nat.le_refl _))
  have hnb := Below.new w2 (.cells #[.slice A0 held.length c0, .slice A1 asks.length c1] 27)
  have hw0 : w.heap.size ≤ w1.heap.size := HL1.out.size
  have HS3 : Hid (OwnIts (w2.alloc (.cells #[.slice A0 held.length c0, .slice A1 asks.length c1] 27)) w.heap.size 37 (.slice A0 held.length c0) held vs ∧ OwnIts (w2.alloc (.cells #[.slice A0 held.length c0, .slice A1 asks.length c1] 27)) w.heap.size 42 (.slice A1 asks.length c1) asks us) := ⟨(g0.base hw0).later hnb, (g1.base hw0).later hnb⟩
  have HSR := Lib.hid (hd2.src.later hnb)
  have HB3 : Hid (Blk (w2.alloc (.cells #[.slice A0 held.length c0, .slice A1 asks.length c1] 27)) w2.heap.size 27 #[.slice A0 held.length c0, .slice A1 asks.length c1]) := heap_last rfl
  have HR3 := Lib.hid (HR2.out.alloc (.cells #[.slice A0 held.length c0, .slice A1 asks.length c1] 27))
  have HL3 := Lib.hid (HL2.out.later hnb)
  have HSM := Lib.hid (And.intro hsm0 hsm1)
  clear g0 g1 gx hsm0 hsm1 hd2 hnb HK2
  have r0 := HR2.out.cell 0
  have r1 := HR2.out.cell 1
  have rf0 := HR2.out.frozen 0
  have rf1 := HR2.out.frozen 1
  have rz := HR2.out.lt
  simp at r0 r1
  have HFIN : Hid (∀ (X : World) K (z : Int), Drawn (w.heap.size + 1) K (w2.alloc (.cells #[.slice A0 held.length c0, .slice A1 asks.length c1] 27)) X → Blk X w.heap.size 27 #[.slice none 0 0, .slice none 0 0] ∧ Blk X w2.heap.size 27 #[.slice A0 held.length c0, .slice A1 asks.length c1] ∧ DrawnPost w (.returned (.tuple #[.agg #[.slice A0 held.length c0, .slice A1 asks.length c1], .int .i64 z])) ((X.setCell ⟨w.heap.size, 0, none⟩ (.slice A0 held.length c0)).setCell ⟨w.heap.size, 1, none⟩ (.slice A1 asks.length c1))) := fun X K z hd => by
    have hr := HR3.out.drawn hd (by omega)
    have h0 := HS3.out.1.drawn HSR.out hd (by decide)
    have h1 := HS3.out.2.drawn HSR.out hd (by decide)
    exact ⟨hr, HB3.out.drawn hd (by omega), _, _, held, asks, vs, us, z, rfl, h0.two hr (by decide), h1.two hr (by decide), HSM.out.1, HSM.out.2, below_two (Drawn.below HL3.out hd (Nat.le_succ _) (Nat.le_refl _)) (Nat.le_refl _) _ _⟩
  have HKP := Lib.hid (fun W (hW : Below (w2.alloc (.cells #[.slice A0 held.length c0, .slice A1 asks.length c1] 27)).heap.size (w2.alloc (.cells #[.slice A0 held.length c0, .slice A1 asks.length c1] 27)) W) => pick_any (w.heap.size + 1) (0 + 272) 6 W (HSR.out.later hW) (by omega) (by omega))
  have hrz1 := Nat.lt_succ_of_lt rz
  go_wp2_with fail
  go_region_law (first
  | (go_simp
     go_at_call 36
     refine (HKP.out _ (by exact (Below.refl _ _).drew)).mono ?_
     rintro e w4 ⟨y, rfl, hy, hd4⟩
     have hfi := HFIN.out w4 _ (y : Int) hd4.undrew
     have q0 := hfi.1.cell 0
     have q1 := hfi.1.cell 1
     have qf0 := hfi.1.frozen 0
     have qf1 := hfi.1.frozen 1
     have qz := hfi.1.lt
     have u0 := hfi.2.1.cell 0
     have u1 := hfi.2.1.cell 1
     have uz := hfi.2.1.lt
     simp at q0 q1 u0 u1
     have HFX := Lib.hid hfi.2.2
     have HRX := Lib.hid hfi.1
     clear hfi hd4))
  all_goals
    clear r0 r1 rf0 rf1 rz u0 u1 uz q0 q1 qf0 qf1 qz
    go_wp2_with fail
    have hbf := box_two HRX.out (.slice A0 held.length c0) (.slice A1 asks.length c1)
    have t0 := (hbf.cell 0).trans rfl
    have t1 := (hbf.cell 1).trans rfl
    refine bodyPost_ret (v := .tuple #[.agg #[.slice A0 held.length c0, .slice A1 asks.length c1], .int .i64 (y : Int)]) (by simp [results, Tryz.results8, go_sem, t0, t1]) rfl ?_
    exact HFX.out

set_option maxRecDepth 100000 in
set_option maxHeartbeats 4000000 in
theorem DrawExpire_any (A : Option Addr) (n c : Nat) (w : World) (h : BytesR w w.heap.size A n) (hn : n ≤ 1048576) :
    Calls Tryz.prog 13 #[.slice A n c] w (DrawnPost w) := by
  have HK1 := Lib.hid (l00From_any A n c _ (BytesR.later' h (Below.new w (.cells #[.slice none 0 0, .slice none 0 0] 27))) hn)
  clear h
  go_enter Tryz.func13, Tryz.ntmps13
  go_wp2_with fail
  refine HK1.out.mono ?_
  rintro e w1 ⟨rfl, hs1, hb1⟩
  have ep : (w.alloc (.cells #[.slice none 0 0, .slice none 0 0] 27)).heap.size = w.heap.size + 1 := by simp
  rw [ep] at hs1 hb1
  have hr1 : Blk w1 w.heap.size 27 #[.slice none 0 0, .slice none 0 0] := Blk.later (heap_last rfl) hb1 (by omega)
  have hl1 : Below w.heap.size w w1 := (Below.new w _).trans (hb1.mono (by omega))
  have HR1 := Lib.hid hr1
  have HL1 := Lib.hid hl1
  have HK2 := Lib.hid (l24Bent_any (w.heap.size + 1) 0 w1 hs1 (by omega))
  have hw1 := hb1.size
  clear hs1 hb1 HK1 hr1 hl1
  go_wp2_with fail
  refine HK2.out.mono ?_
  rintro e w2 ⟨v0, v1, held, asks, vs, us, rfl, g0, g1, gx, hsm0, hsm1, hd2⟩
  obtain ⟨A0, c0, rfl, _, _, _⟩ := own_slice g0.row
  obtain ⟨A1, c1, rfl, _, _, _⟩ := own_slice g1.row
  have hpw : w.heap.size + 1 < w2.heap.size := hd2.lt
  have HR2 := Lib.hid (HR1.out.drawn hd2 (by omega))
  have HL2 := Lib.hid (Drawn.below HL1.out hd2 (Nat.le_succ _) (Nat.le_refl _))
  have hnb := Below.new w2 (.cells #[.slice A0 held.length c0, .slice A1 asks.length c1] 27)
  have hw0 : w.heap.size ≤ w1.heap.size := HL1.out.size
  have HS3 : Hid (OwnIts (w2.alloc (.cells #[.slice A0 held.length c0, .slice A1 asks.length c1] 27)) w.heap.size 37 (.slice A0 held.length c0) held vs ∧ OwnIts (w2.alloc (.cells #[.slice A0 held.length c0, .slice A1 asks.length c1] 27)) w.heap.size 42 (.slice A1 asks.length c1) asks us) := ⟨(g0.base hw0).later hnb, (g1.base hw0).later hnb⟩
  have HSR := Lib.hid (hd2.src.later hnb)
  have HB3 : Hid (Blk (w2.alloc (.cells #[.slice A0 held.length c0, .slice A1 asks.length c1] 27)) w2.heap.size 27 #[.slice A0 held.length c0, .slice A1 asks.length c1]) := heap_last rfl
  have HR3 := Lib.hid (HR2.out.alloc (.cells #[.slice A0 held.length c0, .slice A1 asks.length c1] 27))
  have HL3 := Lib.hid (HL2.out.later hnb)
  have HSM := Lib.hid (And.intro hsm0 hsm1)
  clear g0 g1 gx hsm0 hsm1 hd2 hnb HK2
  have r0 := HR2.out.cell 0
  have r1 := HR2.out.cell 1
  have rf0 := HR2.out.frozen 0
  have rf1 := HR2.out.frozen 1
  have rz := HR2.out.lt
  simp at r0 r1
  have HFIN : Hid (∀ (X : World) K (z : Int), Drawn (w.heap.size + 1) K (w2.alloc (.cells #[.slice A0 held.length c0, .slice A1 asks.length c1] 27)) X → Blk X w.heap.size 27 #[.slice none 0 0, .slice none 0 0] ∧ Blk X w2.heap.size 27 #[.slice A0 held.length c0, .slice A1 asks.length c1] ∧ DrawnPost w (.returned (.tuple #[.agg #[.slice A0 held.length c0, .slice A1 asks.length c1], .int .i64 z])) ((X.setCell ⟨w.heap.size, 0, none⟩ (.slice A0 held.length c0)).setCell ⟨w.heap.size, 1, none⟩ (.slice A1 asks.length c1))) := fun X K z hd => by
    have hr := HR3.out.drawn hd (by omega)
    have h0 := HS3.out.1.drawn HSR.out hd (by decide)
    have h1 := HS3.out.2.drawn HSR.out hd (by decide)
    exact ⟨hr, HB3.out.drawn hd (by omega), _, _, held, asks, vs, us, z, rfl, h0.two hr (by decide), h1.two hr (by decide), HSM.out.1, HSM.out.2, below_two (Drawn.below HL3.out hd (Nat.le_succ _) (Nat.le_refl _)) (Nat.le_refl _) _ _⟩
  have HKA := Lib.hid (fun W (hW : Below (w2.alloc (.cells #[.slice A0 held.length c0, .slice A1 asks.length c1] 27)).heap.size (w2.alloc (.cells #[.slice A0 held.length c0, .slice A1 asks.length c1] 27)) W) (hI : Ints W W.heap.size (some ⟨w2.heap.size + 1, 0, none⟩) 9 [0, 4, 5, 8, 9, 20, -1, 999999, 1000000]) => among_any (w.heap.size + 1) (0 + 272) (w2.heap.size + 1) 9 9 [0, 4, 5, 8, 9, 20, -1, 999999, 1000000] W (HSR.out.later hW) (by omega) hI (by omega) (by omega) (by omega))
  have HI : Hid (Ints ((w2.alloc (.cells #[.slice A0 held.length c0, .slice A1 asks.length c1] 27)).alloc (.cells #[.int .i64 0, .int .i64 4, .int .i64 5, .int .i64 8, .int .i64 9, .int .i64 20, .int .i64 (-1), .int .i64 999999, .int .i64 1000000] 2)) ((w2.alloc (.cells #[.slice A0 held.length c0, .slice A1 asks.length c1] 27)).alloc (.cells #[.int .i64 0, .int .i64 4, .int .i64 5, .int .i64 8, .int .i64 9, .int .i64 20, .int .i64 (-1), .int .i64 999999, .int .i64 1000000] 2)).heap.size (some ⟨w2.heap.size + 1, 0, none⟩) 9 [0, 4, 5, 8, 9, 20, -1, 999999, 1000000]) := by
    have h := ints_lit (w2.alloc (.cells #[.slice A0 held.length c0, .slice A1 asks.length c1] 27)) 2 [0, 4, 5, 8, 9, 20, -1, 999999, 1000000] _ rfl
    have e : (w2.alloc (.cells #[.slice A0 held.length c0, .slice A1 asks.length c1] 27)).heap.size = w2.heap.size + 1 := by simp
    rw [e] at h
    exact h
  have hrz1 := Nat.lt_succ_of_lt rz
  go_wp2_with fail
  go_region_law (first
  | (go_simp
     go_at_call 46
     refine (HKA.out _ (by exact (Below.new _ _).drew) (by exact HI.out)).mono ?_
     rintro e w4 ⟨z, hz, rfl, hd4⟩
     have hfi := HFIN.out w4 _ z (Drawn.pre (Below.new (w2.alloc (.cells #[.slice A0 held.length c0, .slice A1 asks.length c1] 27)) (.cells #[.int .i64 0, .int .i64 4, .int .i64 5, .int .i64 8, .int .i64 9, .int .i64 20, .int .i64 (-1), .int .i64 999999, .int .i64 1000000] 2)) hd4.undrew)
     have q0 := hfi.1.cell 0
     have q1 := hfi.1.cell 1
     have qf0 := hfi.1.frozen 0
     have qf1 := hfi.1.frozen 1
     have qz := hfi.1.lt
     have u0 := hfi.2.1.cell 0
     have u1 := hfi.2.1.cell 1
     have uz := hfi.2.1.lt
     simp at q0 q1 u0 u1
     have HFX := Lib.hid hfi.2.2
     have HRX := Lib.hid hfi.1
     clear hfi hd4))
  all_goals
    clear r0 r1 rf0 rf1 rz u0 u1 uz q0 q1 qf0 qf1 qz
    go_wp2_with fail
    have hbf := box_two HRX.out (.slice A0 held.length c0) (.slice A1 asks.length c1)
    have t0 := (hbf.cell 0).trans rfl
    have t1 := (hbf.cell 1).trans rfl
    refine bodyPost_ret (v := .tuple #[.agg #[.slice A0 held.length c0, .slice A1 asks.length c1], .int .i64 z]) (by simp [results, Tryz.results13, go_sem, t0, t1]) rfl ?_
    exact HFX.out
end Go.Proofs.YtiebcdajoddkpaaGreatDoor

namespace Go.Proofs.YtiebcdajoddkpaaGreatDoor
open Go.RowKit
set_option linter.unusedVariables false

theorem eqS_refl (ss : List ByteArray) : eqS ss ss = true := by
  rw [← eqS_starts]
  simp only [decide_true, Bool.true_and]
  induction ss with
  | nil => rfl
  | cons x r ih => unfold startsB; rw [ih]; simp
set_option maxRecDepth 100000 in
set_option maxHeartbeats 4000000 in
theorem SameLocks_same (A A' B B' : Option Addr) (n c n' c' d d' : Nat) (held asks : List ItD) (w : World) (h : Its w w.heap.size A n held) (ha : Its w w.heap.size A' n' asks) (h2 : Its w w.heap.size B n held) (ha2 : Its w w.heap.size B' n' asks) (hs : smalls held) (hsa : smalls asks) :
    Calls Tryz.prog 11 #[.agg #[.slice A n c, .slice A' n' c'], .agg #[.slice B n d, .slice B' n' d']] w fun e w' => e = .returned (.bool true) ∧ Below w.heap.size w w' := by
  have Hh := Lib.hid h
  have Ha := Lib.hid ha
  have Hh2 := Lib.hid h2
  have Ha2 := Lib.hid ha2
  have Hlen := Lib.hid h.1
  have Hlena := Lib.hid ha.1
  have hn : n ≤ 1048576 := by rw [← h.1]; exact hs.1
  have hn' : n' ≤ 1048576 := by rw [← ha.1]; exact hsa.1
  have Hs := Lib.hid hs
  have Hsa := Lib.hid hsa
  clear h ha h2 ha2 hs hsa
  go_enter Tryz.func11, Tryz.ntmps11
  go_wp2_with fail
  go_loopw [5] (fun i wr => ∃ k : Nat, k ≤ n ∧ i = .int .i64 k ∧ Blk wr w.heap.size 27 #[.slice A n c, .slice A' n' c'] ∧ Blk wr (w.heap.size + 1) 27 #[.slice B n d, .slice B' n' d'] ∧ Below w.heap.size w wr) (fun i _ => n - (intOf i).toNat)
  case atStart => exact ⟨0, Nat.zero_le _, rfl, heap_two0 _ _ _, heap_two1 _ _ _, (Below.new _ _).later (Below.new _ _)⟩
  case round =>
    obtain ⟨k, hk, rfl, hB1, hB2, hb⟩ := hrel
    have HB := Lib.hid hb
    have HB1 := Lib.hid hB1
    have HB2 := Lib.hid hB2
    have p0 := hB1.cell 0
    have p1 := hB1.cell 1
    have q0 := hB2.cell 0
    have q1 := hB2.cell 1
    have pz := hB1.lt
    have qz := hB2.lt
    simp at p0 p1 q0 q1
    clear hb hB1 hB2
    by_cases hlt : k < n
    · obtain ⟨b1, o1, rfl, hb1B, hc1⟩ := (Hh.out.later HB.out).2 (by omega)
      obtain ⟨b2, o2, rfl, hb2B, hc2⟩ := (Hh2.out.later HB.out).2 (by omega)
      obtain ⟨c0, c1, c2, c3, k0, k1, k2, k3, hr⟩ := hc1 k hlt
      obtain ⟨d0, d1, d2, d3, j0, j1, j2, j3, hr2⟩ := hc2 k hlt
      have hsm := Hs.out.2 _ (getD_mem held k (by rw [Hlen.out]; exact hlt))
      clear hc1 hc2
      generalize held.getD k default = e at *
      obtain ⟨rfl, rfl, rfl, A1, n1, cap1, rfl, hs1, _⟩ := hr
      obtain ⟨rfl, rfl, rfl, A2, n2, cap2, rfl, hs2, _⟩ := hr2
      have hn1 : n1 ≤ 1048576 := by rw [← hs1.1]; exact hsm.2.1
      have hn2 : n2 ≤ 1048576 := by rw [← hs2.1]; exact hsm.2.1
      have HK := Lib.hid (fun W (hW : Below wr.heap.size wr W) => l24Texts_any A1 A2 n1 cap1 n2 cap2 e.subs e.subs W (hs1.later hW) (hs2.later hW) hn1 hn2)
      rw [eqS_refl] at HK
      clear hs1 hs2 hsm
      generalize e.a = ea at *
      generalize e.b = eb at *
      generalize e.name = en at *
      have hx1 : (ea != ea) = false := by simp
      have hx2 : (eb != eb) = false := by simp
      have hx3 : (!en.toList == en.toList) = false := by simp
      go_wp2_with fail
      refine (HK.out _ ((Below.new _ _).later (Below.new _ _))).mono ?_
      rintro e w1 ⟨rfl, q, rfl⟩
      have HBn := Lib.hid ((HB.out.later ((Below.new wr (.cells #[.int .i64 ea, .int .i64 eb, .string en, .slice A1 n1 cap1] 37)).later (Below.new _ (.cells #[.int .i64 ea, .int .i64 eb, .string en, .slice A2 n2 cap2] 37)))))
      have HBq := Lib.hid (below_drewN HBn.out q)
      have HC1 := Lib.hid (HB1.out.alloc (.cells #[.int .i64 ea, .int .i64 eb, .string en, .slice A1 n1 cap1] 37) |>.alloc (.cells #[.int .i64 ea, .int .i64 eb, .string en, .slice A2 n2 cap2] 37))
      have HC2 := Lib.hid (HB2.out.alloc (.cells #[.int .i64 ea, .int .i64 eb, .string en, .slice A1 n1 cap1] 37) |>.alloc (.cells #[.int .i64 ea, .int .i64 eb, .string en, .slice A2 n2 cap2] 37))
      go_wp2_with fail
      go_roundw
      case rel => exact ⟨k + 1, by omega, by go_num, HC1.out, HC2.out, HBq.out⟩
      case measure => simp [intOf]; omega
    · obtain rfl : k = n := by omega
      go_wp2_with fail
      clear p0 p1 q0 q1 pz qz
      go_loopw [8] (fun i wr => ∃ kk : Nat, kk ≤ n' ∧ i = .int .i64 kk ∧ Blk wr w.heap.size 27 #[.slice A k c, .slice A' n' c'] ∧ Blk wr (w.heap.size + 1) 27 #[.slice B k d, .slice B' n' d'] ∧ Below w.heap.size w wr) (fun i _ => n' - (intOf i).toNat)
      case atStart => exact ⟨0, Nat.zero_le _, rfl, HB1.out, HB2.out, HB.out⟩
      case round =>
        clear HB HB1 HB2
        obtain ⟨kk, hkk, rfl, hB1, hB2, hb⟩ := hrel
        have HB := Lib.hid hb
        have HB1 := Lib.hid hB1
        have HB2 := Lib.hid hB2
        have p0 := hB1.cell 0
        have p1 := hB1.cell 1
        have q0 := hB2.cell 0
        have q1 := hB2.cell 1
        have pz := hB1.lt
        have qz := hB2.lt
        simp at p0 p1 q0 q1
        clear hb hB1 hB2
        by_cases hlt : kk < n'
        · obtain ⟨b1, o1, rfl, hb1B, hc1⟩ := (Ha.out.later HB.out).2 (by omega)
          obtain ⟨b2, o2, rfl, hb2B, hc2⟩ := (Ha2.out.later HB.out).2 (by omega)
          obtain ⟨c0, c1, c2, c3, k0, k1, k2, k3, hr⟩ := hc1 kk hlt
          obtain ⟨d0, d1, d2, d3, j0, j1, j2, j3, hr2⟩ := hc2 kk hlt
          have hsm := Hsa.out.2 _ (getD_mem asks kk (by rw [Hlena.out]; exact hlt))
          clear hc1 hc2
          generalize asks.getD kk default = e at *
          obtain ⟨rfl, rfl, rfl, A1, n1, cap1, rfl, hs1, _⟩ := hr
          obtain ⟨rfl, rfl, rfl, A2, n2, cap2, rfl, hs2, _⟩ := hr2
          have hn1 : n1 ≤ 1048576 := by rw [← hs1.1]; exact hsm.2.1
          have hn2 : n2 ≤ 1048576 := by rw [← hs2.1]; exact hsm.2.1
          have HK := Lib.hid (fun W (hW : Below wr.heap.size wr W) => l24Texts_any A1 A2 n1 cap1 n2 cap2 e.subs e.subs W (hs1.later hW) (hs2.later hW) hn1 hn2)
          rw [eqS_refl] at HK
          clear hs1 hs2 hsm
          generalize e.a = ea at *
          generalize e.b = eb at *
          generalize e.name = en at *
          have hx1 : (ea != ea) = false := by simp
          have hx2 : (eb != eb) = false := by simp
          have hx3 : (!en.toList == en.toList) = false := by simp
          go_wp2_with fail
          refine (HK.out _ ((Below.new _ _).later (Below.new _ _))).mono ?_
          rintro e w1 ⟨rfl, q, rfl⟩
          have HBn := Lib.hid ((HB.out.later ((Below.new wr (.cells #[.int .i64 ea, .int .i64 eb, .string en, .slice A1 n1 cap1] 42)).later (Below.new _ (.cells #[.int .i64 ea, .int .i64 eb, .string en, .slice A2 n2 cap2] 42)))))
          have HBq := Lib.hid (below_drewN HBn.out q)
          have HC1 := Lib.hid (HB1.out.alloc (.cells #[.int .i64 ea, .int .i64 eb, .string en, .slice A1 n1 cap1] 42) |>.alloc (.cells #[.int .i64 ea, .int .i64 eb, .string en, .slice A2 n2 cap2] 42))
          have HC2 := Lib.hid (HB2.out.alloc (.cells #[.int .i64 ea, .int .i64 eb, .string en, .slice A1 n1 cap1] 42) |>.alloc (.cells #[.int .i64 ea, .int .i64 eb, .string en, .slice A2 n2 cap2] 42))
          go_wp2_with fail
          go_roundw
          case rel => exact ⟨kk + 1, by omega, by go_num, HC1.out, HC2.out, HBq.out⟩
          case measure => simp [intOf]; omega
        · obtain rfl : kk = n' := by omega
          go_wp2_with fail
          go_ret
          exact ⟨rfl, HB.out⟩

set_option maxHeartbeats 1000000 in
theorem specLockCount_any (A A' : Option Addr) (n c n' c' : Nat) (held asks : List ItD) (job : Int) (nm : ByteArray) (S : Option Addr) (m q : Nat) (ss : List ByteArray) (w : World) (h : Its w w.heap.size A n held) (ha : Its w w.heap.size A' n' asks) (hs : smalls held) (hsa : smalls asks)
    (hS : Strs w w.heap.size S m ss) (hst : (tgt job nm ss).small) (hok : okB held asks = true) :
    Calls Tryz.prog 20 #[.agg #[.slice A n c, .slice A' n' c'], .int .i64 job, .string nm, .slice S m q] w fun e w' => e = .returned (.int .i64 (cntB held job nm ss)) ∧ Below w.heap.size w w' := by
  have hm : m ≤ 1048576 := by rw [← hS.1]; exact hst.2.1
  have HK1 := Lib.hid (fun W (hW : Below w.heap.size w W) => l24Ok_any A A' n c n' c' held asks W (h.later hW) (ha.later hW) hs hsa)
  have HK4 := Lib.hid (fun W (hW : Below w.heap.size w W) => l24At_any A A' S n c n' c' m q held job nm ss W (h.later hW) hs (hS.later hW) hm)
  have HIt := Lib.hid (fun W (hW : Below w.heap.size w W) => h.later hW)
  have HT : Hid (cntB held job nm ss = if lockAt held job nm ss < 0 then 0 else (held.getD (lockAt held job nm ss).toNat default).b) := rfl
  have HLN := Lib.hid h.1
  have HAT : Hid (¬ lockAt held job nm ss < 0 → ∃ k : Nat, lockAt held job nm ss = k ∧ k < held.length) := fun hk => by
    obtain ⟨j, h1, h2, _⟩ := idxF_hit (atP job nm ss) held 0 (by unfold lockAt at hk; omega)
    exact ⟨j, by unfold lockAt; rw [h2]; omega, h1⟩
  clear h ha hs hsa hS
  rw [hok] at HK1
  generalize cntB held job nm ss = T at *
  generalize lockAt held job nm ss = aw at *
  go_enter Tryz.func20, Tryz.ntmps20
  go_wp2_with fail
  refine (HK1.out _ (Below.new _ _)).mono ?_
  rintro e w1 ⟨rfl, hb1⟩
  have HB1 := Lib.hid ((Below.new _ _).later hb1)
  have hbx := Blk.later (heap_alloc_new w _) hb1 (by simp)
  have HBX := Lib.hid hbx
  have p0 := hbx.cell
  have z1 := hbx.lt
  clear hb1 hbx
  go_wp2_with fail
  refine (HK4.out _ HB1.out).mono ?_
  rintro e w2 ⟨rfl, hb2⟩
  have HB2 := Lib.hid (HB1.out.later hb2)
  have hbx := HBX.out.later hb2 z1
  clear p0 z1
  have p0 := hbx.cell
  have z1 := hbx.lt
  clear hb2 hbx
  by_cases haw : aw < 0
  · have HE : Hid (T = 0) := by unfold Hid; rw [HT.out, if_pos haw]
    go_wp2_with fail
    go_ret
    exact ⟨ret_int HE.out.symm, HB2.out⟩
  · obtain ⟨k, rfl, hk⟩ := HAT.out (by omega)
    have HE : Hid (T = (held.getD k default).b) := by unfold Hid; rw [HT.out, if_neg (by omega), Int.toNat_natCast]
    have hkn : k < n := by rw [← HLN.out]; exact hk
    obtain ⟨b1, o1, rfl, hb1B, hc1⟩ := (HIt.out w2 HB2.out).2 (by omega)
    obtain ⟨c0, c1, c2, c3, k0, k1, k2, k3, hr⟩ := hc1 k hkn
    obtain ⟨rfl, rfl, rfl, A1, n1, cap1, rfl, hs1, _⟩ := hr
    clear hs1 hc1 HT HAT
    generalize held.getD k default = dd at *
    generalize dd.b = db at *
    go_wp2_with fail
    go_ret
    exact ⟨ret_int HE.out.symm, HB2.out⟩
end Go.Proofs.YtiebcdajoddkpaaGreatDoor

namespace Go.Proofs.YtiebcdajoddkpaaGreatDoor
open Go.RowKit
set_option linter.unusedVariables false

theorem c2Big_any (A : Option Addr) (n c : Nat) (w : World) (hn : n ≤ 9223372036854775807) :
    Calls Tryz.prog 7 #[.slice A n c, .slice none 0 0] w fun e w' => e = .returned (.bool (decide (1048576 < n))) ∧ w = w' := by
  by_cases h : 1048576 < n
  all_goals
    go_enter Tryz.func7, Tryz.ntmps7
    go_wp2_with fail
    go_ret
    exact ⟨ret_bool (by first | (simp [h]; done) | (simp [h]; omega)), rfl⟩
set_option maxHeartbeats 400000 in
theorem c2Ints_same (A A' : Option Addr) (n c c' : Nat) (zs : List Int) (w : World) (h : Ints w w.heap.size A n zs) (h' : Ints w w.heap.size A' n zs) (hn : n ≤ 4194304) :
    Calls Tryz.prog 12 #[.slice A n c, .slice A' n c'] w fun e w' => e = .returned (.bool true) ∧ Below w.heap.size w w' := by
  have H1 := Lib.hid h
  have H2 := Lib.hid h'
  clear h h'
  go_enter Tryz.func12, Tryz.ntmps12
  go_wp2_with fail
  go_loopw [5] (fun i wr => ∃ k : Nat, k ≤ n ∧ i = .int .i64 k ∧ Below w.heap.size w wr) (fun i _ => n - (intOf i).toNat)
  case atStart => exact ⟨0, Nat.zero_le _, rfl, Below.refl _ _⟩
  case round =>
    obtain ⟨k, hk, rfl, hb⟩ := hrel
    have HB := Lib.hid hb
    clear hb
    by_cases hlt : k < n
    · obtain ⟨b1, o1, rfl, _, hc1⟩ := (H1.out.later HB.out).2 (by omega)
      obtain ⟨b2, o2, rfl, _, hc2⟩ := (H2.out.later HB.out).2 (by omega)
      have k1 := hc1 k hlt
      have k2 := hc2 k hlt
      clear hc1 hc2
      generalize zs.getD k 0 = z at *
      have hz : (z != z) = false := by simp
      go_wp2_with fail
      go_quiet (fail)
      go_wp2_with fail
      go_roundw
      case rel => exact ⟨k + 1, by omega, by go_num, by first | exact HB.out | exact HB.out.drew | exact below_drewN HB.out _⟩
      case measure => simp [intOf]; omega
    · obtain rfl : k = n := by omega
      go_wp2_with fail
      go_ret
      exact ⟨rfl, HB.out⟩
set_option maxHeartbeats 400000 in
theorem c2Has_any (A : Option Addr) (n c : Nat) (zs : List Int) (x : Int) (w : World) (h : Ints w w.heap.size A n zs) (hn : n ≤ 4194304) :
    Calls Tryz.prog 16 #[.slice A n c, .int .i64 x] w fun e w' => e = .returned (.bool (decide (x ∈ zs))) ∧ Below w.heap.size w w' := by
  have H1 := Lib.hid h
  have HL := Lib.hid h.1
  clear h
  go_enter Tryz.func16, Tryz.ntmps16
  go_wp2_with fail
  go_loopw [5] (fun i wr => ∃ k : Nat, k ≤ n ∧ i = .int .i64 k ∧ Hid (x ∈ zs ↔ x ∈ zs.drop k) ∧ Below w.heap.size w wr) (fun i _ => n - (intOf i).toNat)
  case atStart => exact ⟨0, Nat.zero_le _, rfl, by unfold Hid; rw [List.drop_zero], Below.refl _ _⟩
  case round =>
    obtain ⟨k, hk, rfl, HM, hb⟩ := hrel
    have HB := Lib.hid hb
    clear hb
    by_cases hlt : k < n
    · obtain ⟨b1, o1, rfl, _, hc1⟩ := (H1.out.later HB.out).2 (by omega)
      have k1 := hc1 k hlt
      clear hc1
      have HD : Hid (zs.drop k = zs.getD k 0 :: zs.drop (k + 1)) := by
        unfold Hid
        have hl : k < zs.length := by rw [HL.out]; exact hlt
        rw [List.drop_eq_getElem_cons hl, List.getD_eq_getElem?_getD, List.getElem?_eq_getElem hl]; rfl
      generalize zs.getD k 0 = z at *
      by_cases hz : z = x
      · subst hz
        have HE : Hid (decide (z ∈ zs) = true) := decide_eq_true (HM.out.2 (by rw [HD.out]; exact List.mem_cons_self ..))
        go_wp2_with fail
        go_ret
        exact ⟨ret_bool HE.out.symm, by first | exact HB.out | exact HB.out.drew | exact below_drewN HB.out _⟩
      · have hz2 : (z == x) = false := beq_eq_false_iff_ne.2 hz
        have HM2 : Hid (x ∈ zs ↔ x ∈ zs.drop (k + 1)) := by
          unfold Hid
          rw [HM.out, HD.out, List.mem_cons]
          exact ⟨fun h => h.resolve_left (fun e => hz e.symm), .inr⟩
        go_wp2_with fail
        go_roundw
        case rel => exact ⟨k + 1, by omega, by go_num, HM2.out, by first | exact HB.out | exact HB.out.drew | exact below_drewN HB.out _⟩
        case measure => simp [intOf]; omega
    · obtain rfl : k = n := by omega
      have HE : Hid (decide (x ∈ zs) = false) := decide_eq_false (fun h => by have := HM.out.1 h; rw [List.drop_of_length_le (by rw [HL.out]; omega)] at this; cases this)
      go_wp2_with fail
      go_ret
      exact ⟨ret_bool HE.out.symm, HB.out⟩
end Go.Proofs.YtiebcdajoddkpaaGreatDoor

namespace Go.Proofs.YtiebcdajoddkpaaGreatDoor
open Go.RowKit
set_option linter.unusedVariables false

theorem tl_cases {held asks : List ItD} {job t : Int} {nm : ByteArray} {ss : List ByteArray} (h : (tlB held asks job nm ss t).2.1 = 0) :
    okB held asks = true ∧ inB job 1 4 = true ∧ thingB nm ss = true ∧ inB t 0 999999 = true ∧ askAt asks job < 0 ∧ roomB held job nm ss = true ∧
    ((blocksB held asks job nm ss = true ∧ tlB held asks job nm ss t = (false, 0, held, asks ++ [⟨job, t, nm, ss⟩])) ∨ (blocksB held asks job nm ss = false ∧ tlB held asks job nm ss t = (true, 0, acqI held (tgt job nm ss), asks))) := by
  unfold tlB at h ⊢
  split at h
  · next hc =>
    rw [if_pos hc]
    simp only [Bool.and_eq_true] at hc
    obtain ⟨⟨⟨h1, h2⟩, h3⟩, h4⟩ := hc
    split at h
    · cases h
    · next ha =>
      rw [if_neg ha]
      split at h
      · cases h
      · next hr =>
        rw [if_neg hr]
        refine ⟨h1, h2, h3, h4, by omega, by simpa using hr, ?_⟩
        cases hb : blocksB held asks job nm ss
        · exact .inr ⟨rfl, by simp⟩
        · exact .inl ⟨rfl, by simp⟩
  · cases h
theorem drop_back {held asks : List ItD} {job : Int} {nm : ByteArray} {ss : List ByteArray} (ho : OkP held asks) (ha : OkP (acqI held (tgt job nm ss)) asks) (hj : inB job 1 4 = true) (ht : thingB nm ss = true) :
    dropB (acqI held (tgt job nm ss)) asks job nm ss = grOk (grantB held asks) := by
  obtain ⟨p1, p2⟩ := acq_pos (held := held) (job := job) (nm := nm) (ss := ss)
  have h1 := at_found _ job nm ss p2
  rw [p1] at h1
  unfold dropB
  rw [if_pos (by rw [ha.okB, hj, ht]; rfl), h1, if_neg (by omega), Int.toNat_natCast, drop_acq ho]
theorem cnt_nine {held asks : List ItD} (ho : OkP held asks) (job : Int) (nm : ByteArray) (ss : List ByteArray) : 0 ≤ cntB held job nm ss ∧ cntB held job nm ss ≤ 9 := by
  unfold cntB
  split
  · omega
  · next h => exact okB_nine ho.okB _ (getD_mem held _ (by
      obtain ⟨j, h1, h2, _⟩ := idxF_hit (atP job nm ss) held 0 (by unfold lockAt at h; omega)
      unfold lockAt
      rw [h2]
      omega))
theorem tl_small (held asks : List ItD) (job t : Int) (nm : ByteArray) (ss : List ByteArray) : smalls (tlB held asks job nm ss t).2.2.1 ∧ smalls (tlB held asks job nm ss t).2.2.2 := by
  have hn : smalls [] := ⟨by simp, fun d hd => by cases hd⟩
  unfold tlB
  split
  · next hc =>
    split
    · exact ⟨hn, hn⟩
    · next ha =>
      split
      · exact ⟨hn, hn⟩
      · next hr =>
        have hc2 := hc
        simp only [Bool.and_eq_true] at hc2
        obtain ⟨⟨⟨h1, h2⟩, h3⟩, h4⟩ := hc2
        have ho := okP_of h1
        split
        · exact (ho.ask h2 h4 h3 (by omega)).small
        · next hb =>
          have hb2 : blocksB held asks job nm ss = false := by simpa using hb
          unfold blocksB at hb2
          rw [Bool.or_eq_false_iff] at hb2
          exact (ho.acq h2 h3 (by simpa using hr) hb2.1).small
  · exact ⟨hn, hn⟩
end Go.Proofs.YtiebcdajoddkpaaGreatDoor

namespace Go.Proofs.YtiebcdajoddkpaaGreatDoor
open Go.RowKit
set_option linter.unusedVariables false

theorem LkO.delH {w y : World} {base p : Nat} {v0 v1 v3 : Value} {h a : List ItD} {hv av : List Value} (hl : LkO w base p v0 v1 h a hv av) {k : Nat} (hk : k < h.length) (hrow : y.ownsRow base 37 4 v3 (h.length - 1) ((flat h hv).take (k * 4) ++ (flat h hv).drop ((k + 1) * 4))) (hg : w.grownBy y v0.ownBlock) :
    LkO (y.setCell ⟨p, 0, none⟩ v3) base p v3 v1 (h.eraseIdx k) a (hv.eraseIdx k) av := by
  have hb2 := hl.blk.grown hg (fun e => own_blk_ne hl.h.row hl.blk (by decide) e.symm)
  refine ⟨?_, hl.above, ?_, (hl.a.keptRow hl.h.row (by decide) (by decide) hg).grownOther hb2 (by decide) (by decide) (grown_set _ _ _ _), fun x hx u hu => hl.cross x ((List.eraseIdx_sublist hv k).subset hx) u hu⟩
  · have := hb2.set_ 0 v3
    simpa using this
  · refine OwnIts.grownOther ?_ hb2 (by decide) (by decide) (grown_set _ _ _ _)
    exact OwnIts.erase hl.h hk hrow (fun u _ ss hs => kept_apart hs hg (apart_types hs hl.h.row (by decide)))
def DropPost (B base p : Nat) (v1 : Value) (held asks : List ItD) (us : List Value) (t : ItD) (w : World) (e : Ending) (w' : World) : Prop :=
  e = .returned (.bool (foundI held t)) ∧ (foundI held t = true → ∃ v0 vs, LkO w' base p v0 v1 (lessOne held (posI held t)) asks vs us) ∧ Below B w w'
set_option maxRecDepth 100000 in
set_option maxHeartbeats 4000000 in
theorem drop_any (B base p : Nat) (v0 v1 : Value) (held asks : List ItD) (vs us : List Value) (job : Int) (nm : ByteArray) (S : Option Addr) (m q : Nat) (ss : List ByteArray) (w : World) (htab : tabT w) (h : LkO w base p v0 v1 held asks vs us) (hB : B ≤ base) (hBw : base ≤ w.heap.size) (hok : OkP held asks)
    (hS : Strs w w.heap.size S m ss) (hmq : m ≤ q) (hst : (tgt job nm ss).small) :
    Calls Tryz.prog 64 #[.pointer (some ⟨p, 0, none⟩), .int .i64 job, .string nm, .slice S m q] w (DropPost B base p v1 held asks us (tgt job nm ss) w) := by
  have HK : Hid (Calls Tryz.prog 62 #[.pointer (some ⟨p, 0, none⟩), .int .i64 job, .string nm, .slice S m q] w fun e w' => e = .returned (.tuple #[.int .i64 (posI held (tgt job nm ss)), .bool (foundI held (tgt job nm ss))]) ∧ Below w.heap.size w w') := (hold_any p held asks job nm S m q ss w htab h.view hok.small.1 hS hmq hst (fun i j h1 h2 h3 => okB_mono hok.okB _ i j h1 h2 h3))
  have hn := hok.small.1.1
  have HO := Lib.hid h
  have HFL : Hid (foundI held (tgt job nm ss) = true → posI held (tgt job nm ss) < held.length) := fun hf => found_lt hf
  have HOK := Lib.hid hok
  clear htab h hok hS hst
  unfold DropPost
  generalize posI held (tgt job nm ss) = x at *
  generalize foundI held (tgt job nm ss) = y at *
  go_enter Tryz.func64, Tryz.ntmps64
  go_wp2_with fail
  refine HK.out.mono ?_
  rintro e w1 ⟨rfl, hb1⟩
  have HB1 := Lib.hid hb1
  have HO1 := Lib.hid (HO.out.later hb1)
  clear hb1 HK
  have hsz1 := HB1.out.size
  have p0 := HO1.out.blk.cell 0
  have f0 := HO1.out.blk.frozen 0
  have zp := HO1.out.blk.lt
  simp at p0
  cases y
  · go_wp2_with fail
    go_ret
    exact ⟨rfl, (fun e => by cases e), HB1.out.mono (by omega)⟩
  · have hxl := HFL.out rfl
    have h9 := okB_nine HOK.out.okB _ (getD_mem held x hxl)
    have h1 := ok_one HOK.out _ (getD_mem held x hxl)
    obtain ⟨A, cap, rfl, hcap, hcm, hA⟩ := own_slice HO1.out.h.row
    obtain ⟨g, rfl, hgl, hgb⟩ := hA (by omega)
    unfold maxLen at hcm
    have HBU := Lib.hid (HO1.out.h.bump hxl ((held.getD x default).b - 1) (by decide))
    have HRW := Lib.hid HO1.out.h.row
    obtain ⟨cur, hcur⟩ := own_blk HO1.out.h.row
    have q0 := own_cell HO1.out.h.row (x * 4 + 1) (.int .i64 (held.getD x default).b) (by omega) ((flat_at held vs x 1 HO1.out.h.len hxl (by omega)).trans rfl)
    have q1 := hcur.frozen (x * 4 + 1)
    have hpg : p ≠ g := fun e => own_blk_ne HRW.out HO1.out.blk (by decide) (by rw [e]; rfl)
    have HGR : Hid (w1.grownBy (w1.setCell ⟨g, x * 4 + 1, none⟩ (.int .i64 ((held.getD x default).b - 1))) (some g)) := grown_set _ _ _ _
    have HLN : Hid (LkO (w1.setCell ⟨g, x * 4 + 1, none⟩ (.int .i64 ((held.getD x default).b - 1))) base p (.slice (some ⟨g, 0, none⟩) held.length cap) v1 (held.set x { held.getD x default with b := (held.getD x default).b - 1 }) asks vs us) :=
      ⟨HO1.out.blk.far hpg _, HO1.out.above, HBU.out, HO1.out.a.keptRow HRW.out (by decide) (by decide) HGR.out, HO1.out.cross⟩
    have HBN : Hid (Below B w (w1.setCell ⟨g, x * 4 + 1, none⟩ (.int .i64 ((held.getD x default).b - 1)))) := (HB1.out.mono (by omega)).setCell (show B ≤ g by omega) _
    have HLZ := Lib.hid (@lessOne_zero held x)
    have HLP := Lib.hid (@lessOne_pos held x)
    clear hA hgb hcur
    have HSL : Hid (∀ d : ItD, (held.set x d).length = held.length) := fun d => List.length_set
    have HSX : Hid (∀ d : ItD, (held.set x d).eraseIdx x = held.eraseIdx x) := fun d => eraseIdx_set_self held x d
    generalize hD : (held.getD x default).b = D at *
    have HD := Lib.hid hD
    clear hD
    generalize hN : held.length = n at *
    have HN := Lib.hid hN
    clear hN
    have hw1 : IntKind.i64.wrap (D - 1) = D - 1 := by rw [IntKind.wrap_i64]; omega
    by_cases hz : D - 1 = 0
    · obtain rfl : D = 1 := by omega
      have hLE := HLZ.out rfl
      simp only [Int.sub_self] at HBU HGR HLN HBN
      have hl := HSL.out { held.getD x default with b := (0 : Int) }
      have hr0 := HLN.out.h.row
      rw [hl] at hr0
      have HKD := Lib.hid (DeleteLock_any base (.slice (some ⟨g, 0, none⟩) n cap) n x _ _ hr0 hn hxl HLN.out.h.one)
      have q5 := HLN.out.blk.cell 0
      have q6 := HLN.out.blk.lt
      have hi1 : ((x + 1 : Nat) : Int) = (x : Int) + 1 := by omega
      have hiw : IntKind.i64.wrap ((x : Int) + 1) = (x : Int) + 1 := by rw [IntKind.wrap_i64]; omega
      rw [hi1] at HKD
      have HEND : Hid (∀ (w2 : World) v3, w2.ownsRow base 37 4 v3 (n - 1) ((flat (held.set x { held.getD x default with b := (0 : Int) }) vs).take (x * 4) ++ (flat (held.set x { held.getD x default with b := (0 : Int) }) vs).drop ((x + 1) * 4)) → (w1.setCell ⟨g, x * 4 + 1, none⟩ (.int .i64 0)).grownBy w2 (some g) → LkO (w2.setCell ⟨p, 0, none⟩ v3) base p v3 v1 (lessOne held x) asks (vs.eraseIdx x) us ∧ Below B w (w2.setCell ⟨p, 0, none⟩ v3)) := fun w2 v3 ho hg => by
        have h2 := HLN.out.delH (v3 := v3) (by rw [hl]; exact hxl) (by rw [hl]; exact ho) hg
        rw [HSX.out] at h2
        rw [hLE]
        exact ⟨h2, (HBN.out.grown hg (by have := HBN.out.size; omega) (fun g' hg' => by cases hg'; have := (HRW.out.lt g rfl).1; omega)).setCell (p := ⟨p, 0, none⟩) (Nat.le_trans hB HO1.out.above) _⟩
      have HBK := Lib.hid HLN.out.blk
      have HR0 := Lib.hid hr0
      clear hr0 hLE
      go_wp2_with fail
      refine HKD.out.mono ?_
      rintro e w2 ⟨v3, rfl, hown, hgrow⟩
      obtain ⟨A3, c3, rfl, _, _, _⟩ := own_slice hown
      have HE := Lib.hid (HEND.out w2 _ hown hgrow)
      have hbg := HBK.out.grown hgrow (fun e => own_blk_ne HR0.out HBK.out (by decide) e.symm)
      clear q5 q6 p0 f0 zp
      have p5 := hbg.cell 0
      have f5 := hbg.frozen 0
      have z5 := hbg.lt
      clear hown hgrow hbg
      go_wp2_with fail
      go_ret
      exact ⟨rfl, ⟨_, _, HE.out.1⟩, HE.out.2⟩
    · have hLE := HLP.out hz
      have hz2 : (D - 1 == 0) = false := beq_eq_false_iff_ne.2 hz
      have HLN2 : Hid (LkO (w1.setCell ⟨g, x * 4 + 1, none⟩ (.int .i64 (D - 1))) base p (.slice (some ⟨g, 0, none⟩) n cap) v1 (lessOne held x) asks vs us) := by unfold Hid; rw [hLE]; exact HLN.out
      clear hLE
      go_wp2_with fail
      go_ret
      exact ⟨rfl, ⟨_, _, HLN2.out⟩, HBN.out⟩

set_option maxRecDepth 100000 in
set_option maxHeartbeats 2000000 in
theorem implDropLock_any (A A' : Option Addr) (n c n' c' : Nat) (held asks : List ItD) (job : Int) (nm : ByteArray) (S : Option Addr) (m q : Nat) (ss : List ByteArray) (w : World) (htab : tabT w) (h : Its w w.heap.size A n held) (ha : Its w w.heap.size A' n' asks) (hs : smalls held) (hsa : smalls asks) (hnc : n ≤ c)
    (hS : Strs w w.heap.size S m ss) (hmq : m ≤ q) (hst : (tgt job nm ss).small) :
    Calls Tryz.prog 23 #[.agg #[.slice A n c, .slice A' n' c'], .int .i64 job, .string nm, .slice S m q] w (DAPost (dropB held asks job nm ss) w) := by
  have HK1 := Lib.hid (fun W (hW : Below w.heap.size w W) => resourceOk_any A A' n c n' c' held asks job nm S m q ss W (tab_later htab hW) (h.later hW) (ha.later hW) hs hsa hnc (hS.later hW) hst)
  have hri : resI held asks job nm ss = (okB held asks && inB job 1 4 && thingB nm ss) := by unfold resI; rw [locksI_eq]
  rw [hri] at HK1
  have HK3 := Lib.hid (fun W (hW : Below w.heap.size w W) => copyLocks_any A A' n c n' c' held asks W (h.later hW) (ha.later hW) hs hsa)
  have HTB := Lib.hid htab
  have hgl := tab_lt htab
  have HT : Hid (dropB held asks job nm ss = if (okB held asks && inB job 1 4 && thingB nm ss) = true then (if lockAt held job nm ss < 0 then grBad 3 else grOk (grantB (lessOne held (lockAt held job nm ss).toNat) asks)) else grBad 1) := rfl
  have HSS := Lib.hid (fun W (hW : Below w.heap.size w W) => hS.later hW)
  have HOK : Hid ((okB held asks && inB job 1 4 && thingB nm ss) = true → OkP held asks) := fun hx => by
    simp only [Bool.and_eq_true] at hx
    exact okP_of hx.1.1
  clear htab h ha hs hsa hri hS
  generalize dropB held asks job nm ss = T at *
  generalize (okB held asks && inB job 1 4 && thingB nm ss) = x at *
  go_enter Tryz.func23, Tryz.ntmps23
  go_wp2_with fail
  refine (HK1.out _ (by exact (Below.new _ _).later (Below.new _ _))).mono ?_
  rintro e w1 ⟨rfl, hb1⟩
  have HB := Lib.hid (((Below.new _ _).later (Below.new _ _)).later hb1)
  have HBX := Lib.hid (Blk.later (heap_two0 w _ _) hb1 (by simp; omega))
  have HBY := Lib.hid (Blk.later (heap_two1 w _ _) hb1 (by simp))
  have p1 := HBX.out.cell
  have p2 := HBY.out.cell
  have f2 := HBY.out.frozen
  have z1 := HBX.out.lt
  have z2 := HBY.out.lt
  clear hb1
  cases x
  · have HE : Hid (T = grBad 1) := by unfold Hid; rw [HT.out]; rfl
    go_wp2_with fail
    have hbf := box_two HBY.out (.slice none 0 0) (.slice none 0 0)
    have t0 := (hbf.cell 0).trans rfl
    have t1 := (hbf.cell 1).trans rfl
    refine bodyPost_ret (v := .tuple #[.agg #[.slice none 0 0, .slice none 0 0], .slice none 0 0, .int .i64 1]) (by simp [results, Tryz.results23, go_sem, t0, t1]) rfl ?_
    rw [HE.out]
    exact DAPost.bad (World.ownsRow_nil _ _ _ _) (below_two HB.out (Nat.le_succ _) _ _)
  · have HO := Lib.hid (HOK.out rfl)
    have HT2 : Hid (T = if lockAt held job nm ss < 0 then grBad 3 else grOk (grantB (lessOne held (lockAt held job nm ss).toNat) asks)) := by unfold Hid; rw [HT.out]; rfl
    clear HT HOK
    go_wp2_with fail
    refine (HK3.out _ HB.out).mono ?_
    rintro e w2 ⟨p, v0, v1, vs, us, rfl, hL, hb2⟩
    have HB2 := Lib.hid (HB.out.later hb2)
    have HBY2 := Lib.hid (HBY.out.later hb2 z2)
    have hsz := HB2.out.size
    have hsz2 := hb2.size
    have hsz1 := HB.out.size
    have HK4 := Lib.hid (drop_any w1.heap.size w1.heap.size p v0 v1 held asks vs us job nm S m q ss w2 (tab_later HTB.out HB2.out) hL (Nat.le_refl _) hsz2 HO.out (HSS.out _ HB2.out) hmq hst)
    have hpl := hL.above
    clear hL hb2 p1 p2 f2
    go_wp2_with fail
    refine HK4.out.mono ?_
    rintro e w3 ⟨rfl, hL3, hb3⟩
    have HB3 := Lib.hid (HB2.out.trans (hb3.mono (by omega)))
    have HBY3 := Lib.hid (HBY2.out.later hb3 z2)
    have p2 := HBY3.out.cell
    have f2 := HBY3.out.frozen
    have z3 := HBY3.out.lt
    have hfl := at_found held job nm ss
    have hll := at_lost held job nm ss HO.out.sorted
    clear HK4
    by_cases hfd : foundI held (tgt job nm ss) = true
    · rw [hfd]
      obtain ⟨v0', vs', hl3⟩ := hL3 hfd
      have HE : Hid (T = grOk (grantB (lessOne held (posI held (tgt job nm ss))) asks)) := by unfold Hid; rw [HT2.out, hfl hfd, if_neg (by omega), Int.toNat_natCast]
      have HK5 := Lib.hid (grant_any w1.heap.size w1.heap.size p v0' v1 _ _ vs' us w3 (tab_at (tab_later HTB.out HB2.out) hb3 (by omega)) (by omega) hl3 (Nat.le_refl _) (by have := hl3.blk.lt; omega) (HO.out.less (found_lt hfd)))
      have hw3 : w1.heap.size ≤ w3.heap.size := by have := hl3.blk.lt; omega
      clear hl3 hL3 hb3 hfl hll hfd
      generalize grantB (lessOne held (posI held (tgt job nm ss))) asks = R at *
      go_wp2_with fail
      refine HK5.out.mono ?_
      rintro e w4 ⟨vo, y0, y1, vs4, us4, rfl, hL4, hr4, hb4, hk4⟩
      have HB4 := Lib.hid (HB3.out.trans (hb4.mono (by omega)))
      have HBY4 := Lib.hid (HBY3.out.later hb4 z2)
      obtain ⟨A7, c7, rfl, _, _, _⟩ := own_slice hL4.h.row
      obtain ⟨A8, c8, rfl, _, _, _⟩ := own_slice hL4.a.row
      obtain ⟨A9, c9, rfl, _, _, _⟩ := own_slice hr4
      have HL4 := Lib.hid hL4
      have HR4 := Lib.hid (own_base hr4 hw3)
      have q0 := hL4.blk.cell 0
      have q1 := hL4.blk.cell 1
      have qz := hL4.blk.lt
      clear p2 f2 z3
      have p2 := HBY4.out.cell
      have f2 := HBY4.out.frozen
      have z4 := HBY4.out.lt
      simp at q0 q1
      clear hL4 hr4 hb4 hk4 HK5
      go_wp2_with fail
      have hbf := box_two HBY4.out (.slice A7 R.1.length c7) (.slice A8 R.2.1.length c8)
      have t0 := (hbf.cell 0).trans rfl
      have t1 := (hbf.cell 1).trans rfl
      refine bodyPost_ret (v := .tuple #[.agg #[.slice A7 R.1.length c7, .slice A8 R.2.1.length c8], .slice A9 R.2.2.length c9, .int .i64 0]) (by simp [results, Tryz.results23, go_sem, t0, t1]) rfl ?_
      rw [HE.out]
      exact DAPost.good (HL4.out.h.two HBY4.out (by decide)) (HL4.out.a.two HBY4.out (by decide)) HL4.out.cross (row_two HR4.out HBY4.out (by decide)) hsz1 (below_two HB4.out (Nat.le_succ _) _ _)
    · have hfd2 : foundI held (tgt job nm ss) = false := by simpa using hfd
      have HE : Hid (T = grBad 3) := by unfold Hid; rw [HT2.out, hll hfd2, if_pos (by decide)]
      rw [hfd2]
      clear hL3 hb3 hfl hll hfd hfd2
      go_wp2_with fail
      have hbf := box_two HBY3.out (.slice none 0 0) (.slice none 0 0)
      have t0 := (hbf.cell 0).trans rfl
      have t1 := (hbf.cell 1).trans rfl
      refine bodyPost_ret (v := .tuple #[.agg #[.slice none 0 0, .slice none 0 0], .slice none 0 0, .int .i64 3]) (by simp [results, Tryz.results23, go_sem, t0, t1]) rfl ?_
      rw [HE.out]
      exact DAPost.bad (World.ownsRow_nil _ _ _ _) (below_two HB3.out (Nat.le_succ _) _ _)
end Go.Proofs.YtiebcdajoddkpaaGreatDoor

namespace Go.Proofs.YtiebcdajoddkpaaGreatDoor
open Go.RowKit
set_option linter.unusedVariables false

theorem view_box {w : World} {p n c n' c' : Nat} {A A' : Option Addr} {held asks : List ItD} (hb : Blk w p 27 #[.slice A n c, .slice A' n' c']) (h : Its w w.heap.size A n held) (ha : Its w w.heap.size A' n' asks) (hc : n ≤ c) (hc' : n' ≤ c') : LkV w p held asks := by
  obtain rfl : n = held.length := h.1.symm
  obtain rfl : n' = asks.length := ha.1.symm
  refine ⟨hb.lt, A, c, A', c', ?_, ?_, hc, hc', h, ha⟩
  · have := hb.cell 0; simpa using this
  · have := hb.cell 1; simpa using this
set_option maxRecDepth 100000 in
set_option maxHeartbeats 2000000 in
theorem implLockCount_any (A A' : Option Addr) (n c n' c' : Nat) (held asks : List ItD) (job : Int) (nm : ByteArray) (S : Option Addr) (m q : Nat) (ss : List ByteArray) (w : World) (htab : tabT w) (h : Its w w.heap.size A n held) (ha : Its w w.heap.size A' n' asks) (hs : smalls held) (hsa : smalls asks) (hnc : n ≤ c) (hnc' : n' ≤ c')
    (hS : Strs w w.heap.size S m ss) (hmq : m ≤ q) (hst : (tgt job nm ss).small) (hr : resI held asks job nm ss = true) :
    Calls Tryz.prog 21 #[.agg #[.slice A n c, .slice A' n' c'], .int .i64 job, .string nm, .slice S m q] w fun e w' => e = .returned (.int .i64 (cntB held job nm ss)) ∧ Below w.heap.size w w' := by
  have hok : okB held asks = true := by
    unfold resI at hr
    rw [Bool.and_eq_true, Bool.and_eq_true, locksI_eq] at hr
    exact hr.1.1
  have HK1 := Lib.hid (fun W (hW : Below w.heap.size w W) => resourceOk_any A A' n c n' c' held asks job nm S m q ss W (tab_later htab hW) (h.later hW) (ha.later hW) hs hsa hnc (hS.later hW) hst)
  rw [hr] at HK1
  have HK2 := Lib.hid (fun W (hW : Below w.heap.size w W) (hv : LkV W w.heap.size held asks) => hold_any w.heap.size held asks job nm S m q ss W (tab_later htab hW) hv hs (hS.later hW) hmq hst (fun i j h1 h2 h3 => okB_mono hok _ i j h1 h2 h3))
  have HVW := Lib.hid (fun W (hW : Below w.heap.size w W) (hb : Blk W w.heap.size 27 #[.slice A n c, .slice A' n' c']) => view_box hb (h.later hW) (ha.later hW) hnc hnc')
  have HIt := Lib.hid (fun W (hW : Below w.heap.size w W) => h.later hW)
  have HLN := Lib.hid h.1
  have HC1 : Hid (foundI held (tgt job nm ss) = true → cntB held job nm ss = (held.getD (posI held (tgt job nm ss)) default).b ∧ posI held (tgt job nm ss) < held.length) := fun hf => by
    refine ⟨?_, found_lt hf⟩
    unfold cntB
    rw [at_found _ _ _ _ hf, if_neg (by omega), Int.toNat_natCast]
  have HC2 : Hid (foundI held (tgt job nm ss) = false → cntB held job nm ss = 0) := fun hf => by
    unfold cntB
    rw [at_lost _ _ _ _ (okB_so hok) hf, if_pos (by decide)]
  clear htab h ha hs hsa hS hst hr hok
  go_enter Tryz.func21, Tryz.ntmps21
  go_wp2_with fail
  refine (HK1.out _ (Below.new _ _)).mono ?_
  rintro e w1 ⟨rfl, hb1⟩
  have HB1 := Lib.hid ((Below.new _ _).later hb1)
  have HBX := Lib.hid (Blk.later (heap_alloc_new w _) hb1 (by simp))
  have HK3 := Lib.hid (HK2.out w1 HB1.out (HVW.out w1 HB1.out HBX.out))
  clear hb1 HK1
  go_wp2_with fail
  refine HK3.out.mono ?_
  rintro e w2 ⟨rfl, hb2⟩
  have HB2 := Lib.hid (HB1.out.later hb2)
  have hbx := HBX.out.later hb2 HBX.out.lt
  have p0 := hbx.cell 0
  have z0 := hbx.lt
  simp at p0
  clear hb2 hbx HK3 HK2 HVW
  generalize posI held (tgt job nm ss) = x at *
  generalize foundI held (tgt job nm ss) = y at *
  cases y
  · have HE : Hid (cntB held job nm ss = 0) := HC2.out rfl
    go_wp2_with fail
    go_ret
    exact ⟨ret_int HE.out.symm, HB2.out⟩
  · obtain ⟨hT, hx⟩ := HC1.out rfl
    have HE := Lib.hid hT
    clear hT
    have hxn : x < n := by rw [← HLN.out]; exact hx
    obtain ⟨b1, o1, rfl, hb1B, hc1⟩ := (HIt.out w2 HB2.out).2 (by omega)
    obtain ⟨c0, c1, c2, c3, k0, k1, k2, k3, hr⟩ := hc1 x hxn
    obtain ⟨rfl, rfl, rfl, A1, n1, cap1, rfl, hs1, _⟩ := hr
    clear hs1 hc1 HC1 HC2
    generalize held.getD x default = dd at *
    generalize dd.b = db at *
    go_wp2_with fail
    go_ret
    exact ⟨ret_int HE.out.symm, HB2.out⟩

set_option maxRecDepth 100000 in
set_option maxHeartbeats 2000000 in
theorem waitsFor_any (p : Nat) (held asks : List ItD) (job : Int) (k : Nat) (w : World) (h : LkV w p held asks) (hs : smalls held) (hsa : smalls asks) (hk : askAt asks job = k) (hkl : k < asks.length) :
    Calls Tryz.prog 63 #[.pointer (some ⟨p, 0, none⟩), .int .i64 job] w (BlkPost (frontI held asks job (asks.getD k default).name (asks.getD k default).subs) w) := by
  have HK1 := Lib.hid (waiting_any p held asks job w h hsa)
  rw [hk] at HK1
  have HV := Lib.hid (fun W (hW : Below w.heap.size w W) => h.later hW)
  have hsd := hsa.2 _ (getD_mem asks k hkl)
  have hal := hsa.1
  clear h hk
  go_enter Tryz.func63, Tryz.ntmps63
  go_wp2_with fail
  refine HK1.out.mono ?_
  rintro e w1 ⟨rfl, hb1⟩
  have HB1 := Lib.hid hb1
  obtain ⟨hp, A, c, A', c', h0, h1, hc, hc', hi, hi'⟩ := HV.out w1 hb1
  obtain ⟨b1, o1, rfl, hb1B, hc1⟩ := hi'.2 (by omega)
  obtain ⟨c0, c1, c2, c3, k0, k1, k2, k3, hr⟩ := hc1 k hkl
  obtain ⟨rfl, rfl, rfl, A1, n1, cap1, rfl, hs1, hcap⟩ := hr
  have hn1 : n1 ≤ 1048576 := by rw [← hs1.1]; exact hsd.2.1
  have HK2 := Lib.hid (fun W (hW : Below w1.heap.size w1 W) => inFront_any p held asks job (asks.getD k default).name A1 n1 cap1 (asks.getD k default).subs W (HV.out W (hb1.later hW)) hs hsa (hs1.later hW) hn1 hcap)
  clear hb1 hi hi' hs1 hc1 HK1 hsd
  generalize frontI held asks job (asks.getD k default).name (asks.getD k default).subs = R at *
  generalize asks.getD k default = dd at *
  have hkl2 : (k : Int) < (asks.length : Int) := by omega
  go_wp2_with fail
  go_region_with (first
    | (go_at_call 106
       refine (HK2.out _ (by exact (Below.refl _ _).drew)).mono ?_
       rintro e w2 ⟨A9, m9, c9, rfl, h9, h9b, hb2⟩
       have HB2 := Lib.hid (HB1.out.later (undrew hb2))
       have H9 := Lib.hid (And.intro h9 h9b)
       clear hb2 h9 h9b))
  all_goals
    go_wp2_with fail
    go_ret
    exact ⟨_, _, _, rfl, H9.out.1, H9.out.2, HB2.out⟩
set_option maxRecDepth 100000 in
set_option maxHeartbeats 2000000 in
theorem implWaitsFor_any (A A' : Option Addr) (n c n' c' : Nat) (held asks : List ItD) (job : Int) (k : Nat) (w : World) (htab : tabT w) (h : Its w w.heap.size A n held) (ha : Its w w.heap.size A' n' asks) (hs : smalls held) (hsa : smalls asks) (hnc : n ≤ c) (hnc' : n' ≤ c') (hok : okB held asks = true) (hj : inB job 1 4 = true) (hk : askAt asks job = k) (hkl : k < asks.length) :
    Calls Tryz.prog 22 #[.agg #[.slice A n c, .slice A' n' c'], .int .i64 job] w (BlkPost (frontI held asks job (asks.getD k default).name (asks.getD k default).subs) w) := by
  have HK1 := Lib.hid (fun W (hW : Below w.heap.size w W) => LocksOk_any A A' n c n' c' held asks W (tab_later htab hW) (h.later hW) (ha.later hW) hs hsa hnc)
  rw [locksI_eq, hok] at HK1
  have HK2 := Lib.hid (fun W => jobOk_any job W)
  rw [hj] at HK2
  have HK3 := Lib.hid (fun W (hW : Below w.heap.size w W) (hb : Blk W w.heap.size 27 #[.slice A n c, .slice A' n' c']) => waitsFor_any w.heap.size held asks job k W (view_box hb (h.later hW) (ha.later hW) hnc hnc') hs hsa hk hkl)
  clear htab h ha hs hsa hok hj hk hkl
  generalize frontI held asks job (asks.getD k default).name (asks.getD k default).subs = R at *
  go_enter Tryz.func22, Tryz.ntmps22
  go_wp2_with fail
  refine (HK1.out _ (Below.new _ _)).mono ?_
  rintro e w1 ⟨rfl, hb1⟩
  have HB1 := Lib.hid ((Below.new _ _).later hb1)
  have HBX := Lib.hid (Blk.later (heap_alloc_new w _) hb1 (by simp))
  clear hb1 HK1
  go_wp2_with fail
  refine (HK2.out _).mono ?_
  rintro e w2 ⟨rfl, rfl⟩
  have HK4 := Lib.hid (HK3.out w1 HB1.out HBX.out)
  clear HK3
  go_wp2_with fail
  refine HK4.out.mono ?_
  rintro e w2 ⟨A9, m9, c9, rfl, h9, h9b, hb2⟩
  have HB2 := Lib.hid (HB1.out.later hb2)
  have H9 := Lib.hid (And.intro h9 h9b)
  clear hb2 h9 h9b HK4
  go_wp2_with fail
  go_ret
  exact ⟨_, _, _, rfl, H9.out.1, H9.out.2, HB2.out⟩
end Go.Proofs.YtiebcdajoddkpaaGreatDoor

namespace Go.Proofs.YtiebcdajoddkpaaGreatDoor
open Go.RowKit
set_option linter.unusedVariables false

set_option maxRecDepth 100000 in
set_option maxHeartbeats 4000000 in
theorem l24Name_any (p K : Nat) (w : World) (h : SrcR w p K) (hK : K ≤ 137438953472) :
    Calls Tryz.prog 52 #[.pointer (some ⟨p, 0, none⟩)] w (SomePost p (K + 12) 5 w) := by
  obtain ⟨i0, hi, hz0, hz1, hz2⟩ := info_parts infoS
  have hpw := h.lt
  have HK1 := Lib.hid (l24Some_any p K w h (by omega))
  clear h
  go_enter Tryz.func52, Tryz.ntmps52
  go_wp2_with fail
  refine HK1.out.mono ?_
  rintro e w1 ⟨nm, v, ss, rfl, hs1, hn1, ht1, hl2, hd1⟩
  obtain ⟨S, q, rfl, hq, _, _⟩ := hs1.strs
  have HS1 := Lib.hid hs1
  have HT1 := Lib.hid (And.intro hn1 ht1)
  have HD1 := Lib.hid hd1
  have HK2 := Lib.hid (pick_any p (K + 8) 16 w1 hd1.src (by omega) (by omega))
  clear hs1 hn1 ht1 hd1 HK1
  go_wp2_with fail
  refine HK2.out.mono ?_
  rintro e w2 ⟨x, rfl, hx, hd2⟩
  have HS2 := Lib.hid (SubO.drawn HS1.out HD1.out.src hd2)
  have HD2 := Lib.hid (HD1.out.trans hd2)
  clear hd2 HK2 HS1 HD1
  have hw2 := HD2.out.chg.size
  by_cases h0 : x = 0
  · subst h0
    have HK3 := Lib.hid (text_any p (K + 8 + 2) (some ⟨w2.heap.size, 0, none⟩) 3 3 [⟨#[]⟩, ⟨#[49]⟩, ⟨#[116, 111, 111, 108, 111, 110, 103, 110, 97, 109, 101]⟩] (w2.alloc (.cells #[.string ⟨#[]⟩, .string ⟨#[49]⟩, .string ⟨#[116, 111, 111, 108, 111, 110, 103, 110, 97, 109, 101]⟩] 9)) (HD2.out.src.later (Below.new _ _)) (by omega) (strs_lit w2 _ [⟨#[]⟩, ⟨#[49]⟩, ⟨#[116, 111, 111, 108, 111, 110, 103, 110, 97, 109, 101]⟩] _ rfl) (by omega) (by omega))
    go_wp2_with fail
    refine HK3.out.mono ?_
    rintro e w3 ⟨t, ht, rfl, hd3⟩
    have ht2 : t.size ≤ 16 := by
      simp only [List.mem_cons, List.not_mem_nil, or_false] at ht
      rcases ht with rfl | rfl | rfl <;> decide
    have HT3 := Lib.hid ht2
    have HS3 := Lib.hid (SubO.drawn (own_later HS2.out (Below.new w2 (.cells #[.string ⟨#[]⟩, .string ⟨#[49]⟩, .string ⟨#[116, 111, 111, 108, 111, 110, 103, 110, 97, 109, 101]⟩] 9))) (HD2.out.src.later (Below.new _ _)) hd3)
    have HD3 := Lib.hid ((HD2.out.later (Below.new _ _)).trans hd3)
    clear ht ht2 hd3 HK3
    go_wp2_with fail
    go_ret2
    exact ⟨t, _, ss, rfl, HS3.out, HT3.out, HT1.out.2, by omega, HD3.out.mono (by omega)⟩
  · by_cases h1 : x = 1
    · subst h1
      have HRW : Hid (∀ o, (w2.alloc o).ownsRow w.heap.size 9 1 (.slice S ss.length q) ss.length (ss.map Value.string)) := fun o => own_later HS2.out (Below.new w2 o)
      have HLE := Lib.hid hl2
      generalize hm : ss.length = m at *
      have HM := Lib.hid hm
      clear hm
      go_wp2_with (at_builtin; refine wpList_append_own _ rfl (.tmp 20) (.tmp 21) 35 rfl w.heap.size 9 i0 (.string .empty) 1 16 Tryz.underlying35 hi hz0 hz1 hz2 rfl (by decide) _ m _ rfl (HRW.out _) ⟨_, 0, none⟩ 1 1 [.string ⟨#[]⟩] rfl rfl ?c1 ?c2 ?c3 ?c4 ?c5 ?_)
      case c1 => exact cell_one_new _ _ _
      case c2 => simp [Value.oneCell']
      case c3 => unfold maxLen; omega
      case c4 => omega
      case c5 => simp; omega
      intro v4 w4 hown4 hg4 _
      have HS4 : Hid (SubO w4 w.heap.size v4 (ss ++ [⟨#[]⟩])) := by
        unfold Hid SubO
        rw [List.length_append, HM.out, List.map_append]
        exact hown4
      have HD4 := Lib.hid ((HD2.out.later (Below.new _ _)).grown hg4 (fun g hg => ((HRW.out (.cells #[] 0)).lt g hg).1) hpw)
      clear hown4 hg4
      go_wp2_with fail
      go_ret2
      exact ⟨nm, v4, ss ++ [(⟨#[]⟩ : ByteArray)], rfl, HS4.out, HT1.out.1, ⟨by rw [List.length_append, HM.out]; simp; omega, fun s hs => by
        rcases List.mem_append.1 hs with h | h
        · exact HT1.out.2.2 s h
        · rw [List.mem_singleton.1 h]; decide⟩, by rw [List.length_append, HM.out]; simp; omega, HD4.out.mono (by omega)⟩
    · by_cases h2 : x = 2
      · subst h2
        have HS4 : Hid (SubO (w2.alloc (.cells #[.string ⟨#[49]⟩, .string ⟨#[50]⟩, .string ⟨#[51]⟩, .string ⟨#[52]⟩, .string ⟨#[53]⟩] 9)) w.heap.size (.slice (some ⟨w2.heap.size, 0, none⟩) 5 5) [⟨#[49]⟩, ⟨#[50]⟩, ⟨#[51]⟩, ⟨#[52]⟩, ⟨#[53]⟩]) := World.ownsRow_lit (base := w.heap.size) (e := 9) (size := 1) w2 #[.string ⟨#[49]⟩, .string ⟨#[50]⟩, .string ⟨#[51]⟩, .string ⟨#[52]⟩, .string ⟨#[53]⟩] 5 hw2 (by unfold maxLen; omega) rfl
        have HD4 := Lib.hid (HD2.out.later (Below.new w2 (.cells #[.string ⟨#[49]⟩, .string ⟨#[50]⟩, .string ⟨#[51]⟩, .string ⟨#[52]⟩, .string ⟨#[53]⟩] 9)))
        go_wp2_with fail
        go_ret2
        exact ⟨nm, _, [⟨#[49]⟩, ⟨#[50]⟩, ⟨#[51]⟩, ⟨#[52]⟩, ⟨#[53]⟩], rfl, HS4.out, HT1.out.1, ⟨by simp, fun s hs => by
          simp only [List.mem_cons, List.not_mem_nil, or_false] at hs
          rcases hs with rfl | rfl | rfl | rfl | rfl <;> decide⟩, by simp, HD4.out.mono (by omega)⟩
      · have e0 : ((x : Int) == 0) = false := beq_eq_false_iff_ne.2 (by omega)
        have e1 : ((x : Int) == 1) = false := beq_eq_false_iff_ne.2 (by omega)
        have e2 : ((x : Int) == 2) = false := beq_eq_false_iff_ne.2 (by omega)
        go_wp2_with fail
        go_ret2
        exact ⟨nm, _, ss, rfl, HS2.out, HT1.out.1, HT1.out.2, by omega, HD2.out.mono (by omega)⟩

def DTLPost (w : World) (e : Ending) (w' : World) : Prop :=
  ∃ v0 v1 held asks vs us job nm v ss t, e = .returned (.tuple #[.agg #[v0, v1], .int .i64 job, .string nm, v, .int .i64 t]) ∧ OwnIts w' w.heap.size 37 v0 held vs ∧ OwnIts w' w.heap.size 42 v1 asks us ∧ smalls held ∧ smalls asks ∧ SubO w' w.heap.size v ss ∧ nm.size ≤ 16 ∧ tinyS ss ∧ Below w.heap.size w w'
set_option maxRecDepth 100000 in
set_option maxHeartbeats 8000000 in
theorem DrawTakeLock_any (A : Option Addr) (n c : Nat) (w : World) (h : BytesR w w.heap.size A n) (hn : n ≤ 1048576) :
    Calls Tryz.prog 17 #[.slice A n c] w (DTLPost w) := by
  have HK1 := Lib.hid (l00From_any A n c _ (BytesR.later' h (Below.new w (.cells #[.slice none 0 0, .slice none 0 0] 27))) hn)
  clear h
  go_enter Tryz.func17, Tryz.ntmps17
  go_wp2_with fail
  refine HK1.out.mono ?_
  rintro e w1 ⟨rfl, hs1, hb1⟩
  have ep : (w.alloc (.cells #[.slice none 0 0, .slice none 0 0] 27)).heap.size = w.heap.size + 1 := by simp
  rw [ep] at hs1 hb1
  have hr1 : Blk w1 w.heap.size 27 #[.slice none 0 0, .slice none 0 0] := Blk.later (heap_last rfl) hb1 (by omega)
  have hl1 : Below w.heap.size w w1 := (Below.new w _).trans (hb1.mono (by omega))
  have HR1 := Lib.hid hr1
  have HL1 := Lib.hid hl1
  have HK2 := Lib.hid (l24Bent_any (w.heap.size + 1) 0 w1 hs1 (by omega))
  have hw1 := hb1.size
  clear hs1 hb1 HK1 hr1 hl1
  go_wp2_with fail
  refine HK2.out.mono ?_
  rintro e w2 ⟨v0, v1, held, asks, vs, us, rfl, g0, g1, gx, hsm0, hsm1, hd2⟩
  obtain ⟨A0, c0, rfl, _, _, _⟩ := own_slice g0.row
  obtain ⟨A1, c1, rfl, _, _, _⟩ := own_slice g1.row
  have hpw : w.heap.size + 1 < w2.heap.size := hd2.lt
  have hnb := Below.new w2 (.cells #[.slice A0 held.length c0, .slice A1 asks.length c1] 27)
  have hw0 : w.heap.size ≤ w1.heap.size := HL1.out.size
  have HR2 := Lib.hid ((HR1.out.drawn hd2 (by omega)).alloc (.cells #[.slice A0 held.length c0, .slice A1 asks.length c1] 27))
  have HL2 := Lib.hid ((Drawn.below HL1.out hd2 (Nat.le_succ _) (Nat.le_refl _)).later hnb)
  have HS2 := Lib.hid (And.intro ((g0.base hw0).later hnb) ((g1.base hw0).later hnb))
  have HB2 : Hid (Blk (w2.alloc (.cells #[.slice A0 held.length c0, .slice A1 asks.length c1] 27)) w2.heap.size 27 #[.slice A0 held.length c0, .slice A1 asks.length c1]) := heap_last rfl
  have HSM := Lib.hid (And.intro hsm0 hsm1)
  have HSR2 := Lib.hid (hd2.src.later hnb)
  have HK3 := Lib.hid (l24Name_any (w.heap.size + 1) (0 + 272) _ HSR2.out (by omega))
  clear g0 g1 gx hsm0 hsm1 hd2 hnb HK2 HR1 HL1
  go_wp2_with fail
  refine HK3.out.mono ?_
  rintro e w3 ⟨nm, vn, ss, rfl, k1, k2, k3, _, hd3⟩
  obtain ⟨S, q, rfl, hq, _, _⟩ := k1.strs
  have eb : (w2.alloc (.cells #[.slice A0 held.length c0, .slice A1 asks.length c1] 27)).heap.size = w2.heap.size + 1 := by simp
  rw [eb] at k1
  have HR3 := Lib.hid (HR2.out.drawn hd3 (by omega))
  have HL3 := Lib.hid (Drawn.below HL2.out hd3 (Nat.le_succ _) (Nat.le_refl _))
  have HS3 := Lib.hid (And.intro (HS2.out.1.drawn HSR2.out hd3 (by decide)) (HS2.out.2.drawn HSR2.out hd3 (by decide)))
  have HB3 := Lib.hid (HB2.out.drawn hd3 (by omega))
  have HSR := Lib.hid hd3.src
  have HNM := Lib.hid (And.intro k2 k3)
  have HN3 := Lib.hid (own_base k1 (show w.heap.size ≤ w2.heap.size + 1 by omega))
  have hw3 := hd3.chg.size
  simp at hw3
  clear k1 k2 k3 hd3 HK3 HR2 HL2 HS2 HB2 HSR2 eb
  have p0 := HB3.out.cell 0
  have p1 := HB3.out.cell 1
  have pz := HB3.out.lt
  have r0 := HR3.out.cell 0
  have r1 := HR3.out.cell 1
  have rf0 := HR3.out.frozen 0
  have rf1 := HR3.out.frozen 1
  have rz := HR3.out.lt
  simp at p0 p1 r0 r1
  have HFIN : Hid (∀ (X : World) K (jz tz : Int), Drawn (w.heap.size + 1) K w3 X → Blk X w.heap.size 27 #[.slice none 0 0, .slice none 0 0] ∧ Blk X w2.heap.size 27 #[.slice A0 held.length c0, .slice A1 asks.length c1] ∧ DTLPost w (.returned (.tuple #[.agg #[.slice A0 held.length c0, .slice A1 asks.length c1], .int .i64 jz, .string nm, .slice S ss.length q, .int .i64 tz])) ((X.setCell ⟨w.heap.size, 0, none⟩ (.slice A0 held.length c0)).setCell ⟨w.heap.size, 1, none⟩ (.slice A1 asks.length c1))) := fun X K jz tz hd => by
    have hr := HR3.out.drawn hd (by omega)
    have h0 := HS3.out.1.drawn HSR.out hd (by decide)
    have h1 := HS3.out.2.drawn HSR.out hd (by decide)
    have h2 := SubO.drawn HN3.out HSR.out hd
    exact ⟨hr, HB3.out.drawn hd (by omega), _, _, held, asks, vs, us, jz, nm, _, ss, tz, rfl, h0.two hr (by decide), h1.two hr (by decide), HSM.out.1, HSM.out.2, row_two h2 hr (by decide), HNM.out.1, HNM.out.2, below_two (Drawn.below HL3.out hd (Nat.le_succ _) (Nat.le_refl _)) (Nat.le_refl _) _ _⟩
  have HKA := Lib.hid (fun b W (hs : SrcR W (w.heap.size + 1) (0 + 272 + 12)) (hI : Ints W W.heap.size (some ⟨b, 0, none⟩) 8 [1, 2, 3, 4, 1, 2, 0, 5]) (hb : b ≠ w.heap.size + 1) => among_any (w.heap.size + 1) (0 + 272 + 12) b 8 8 [1, 2, 3, 4, 1, 2, 0, 5] W hs (by omega) hI hb (by omega) (by omega))
  have HKB := Lib.hid (fun b W (hs : SrcR W (w.heap.size + 1) (0 + 272 + 12 + 2)) (hI : Ints W W.heap.size (some ⟨b, 0, none⟩) 6 [0, 7, 7, 999999, -1, 1000000]) (hb : b ≠ w.heap.size + 1) => among_any (w.heap.size + 1) (0 + 272 + 12 + 2) b 6 6 [0, 7, 7, 999999, -1, 1000000] W hs (by omega) hI hb (by omega) (by omega))
  have HW1 := Lib.hid (Below.new w3 (.cells #[.int .i64 1, .int .i64 2, .int .i64 3, .int .i64 4, .int .i64 1, .int .i64 2, .int .i64 0, .int .i64 5] 2))
  have HW2 := Lib.hid (HW1.out.later (Below.new _ (.cells #[.int .i64 0, .int .i64 7, .int .i64 7, .int .i64 999999, .int .i64 (-1), .int .i64 1000000] 2)))
  have HW3 := Lib.hid ((Below.new w3 (.cells #[.int .i64 0, .int .i64 7, .int .i64 7, .int .i64 999999, .int .i64 (-1), .int .i64 1000000] 2)).later (Below.new _ (.cells #[.int .i64 1, .int .i64 2, .int .i64 3, .int .i64 4, .int .i64 1, .int .i64 2, .int .i64 0, .int .i64 5] 2)))
  have HI1 : Hid (Ints (w3.alloc (.cells #[.int .i64 1, .int .i64 2, .int .i64 3, .int .i64 4, .int .i64 1, .int .i64 2, .int .i64 0, .int .i64 5] 2)) (w3.alloc (.cells #[.int .i64 1, .int .i64 2, .int .i64 3, .int .i64 4, .int .i64 1, .int .i64 2, .int .i64 0, .int .i64 5] 2)).heap.size (some ⟨w3.heap.size, 0, none⟩) 8 [1, 2, 3, 4, 1, 2, 0, 5]) := ints_lit w3 _ [1, 2, 3, 4, 1, 2, 0, 5] _ rfl
  have HI2 := Lib.hid (HI1.out.later (Below.new (w3.alloc (.cells #[.int .i64 1, .int .i64 2, .int .i64 3, .int .i64 4, .int .i64 1, .int .i64 2, .int .i64 0, .int .i64 5] 2)) (.cells #[.int .i64 0, .int .i64 7, .int .i64 7, .int .i64 999999, .int .i64 (-1), .int .i64 1000000] 2)))
  have HJ2 : Hid (Ints ((w3.alloc (.cells #[.int .i64 1, .int .i64 2, .int .i64 3, .int .i64 4, .int .i64 1, .int .i64 2, .int .i64 0, .int .i64 5] 2)).alloc (.cells #[.int .i64 0, .int .i64 7, .int .i64 7, .int .i64 999999, .int .i64 (-1), .int .i64 1000000] 2)) ((w3.alloc (.cells #[.int .i64 1, .int .i64 2, .int .i64 3, .int .i64 4, .int .i64 1, .int .i64 2, .int .i64 0, .int .i64 5] 2)).alloc (.cells #[.int .i64 0, .int .i64 7, .int .i64 7, .int .i64 999999, .int .i64 (-1), .int .i64 1000000] 2)).heap.size (some ⟨w3.heap.size + 1, 0, none⟩) 6 [0, 7, 7, 999999, -1, 1000000]) := by
    have h := ints_lit (w3.alloc (.cells #[.int .i64 1, .int .i64 2, .int .i64 3, .int .i64 4, .int .i64 1, .int .i64 2, .int .i64 0, .int .i64 5] 2)) 2 [0, 7, 7, 999999, -1, 1000000] _ rfl
    have e : (w3.alloc (.cells #[.int .i64 1, .int .i64 2, .int .i64 3, .int .i64 4, .int .i64 1, .int .i64 2, .int .i64 0, .int .i64 5] 2)).heap.size = w3.heap.size + 1 := by simp
    rw [e] at h
    exact h
  have HI3 : Hid (Ints ((w3.alloc (.cells #[.int .i64 0, .int .i64 7, .int .i64 7, .int .i64 999999, .int .i64 (-1), .int .i64 1000000] 2)).alloc (.cells #[.int .i64 1, .int .i64 2, .int .i64 3, .int .i64 4, .int .i64 1, .int .i64 2, .int .i64 0, .int .i64 5] 2)) ((w3.alloc (.cells #[.int .i64 0, .int .i64 7, .int .i64 7, .int .i64 999999, .int .i64 (-1), .int .i64 1000000] 2)).alloc (.cells #[.int .i64 1, .int .i64 2, .int .i64 3, .int .i64 4, .int .i64 1, .int .i64 2, .int .i64 0, .int .i64 5] 2)).heap.size (some ⟨w3.heap.size + 1, 0, none⟩) 8 [1, 2, 3, 4, 1, 2, 0, 5]) := by
    have h := ints_lit (w3.alloc (.cells #[.int .i64 0, .int .i64 7, .int .i64 7, .int .i64 999999, .int .i64 (-1), .int .i64 1000000] 2)) 2 [1, 2, 3, 4, 1, 2, 0, 5] _ rfl
    have e : (w3.alloc (.cells #[.int .i64 0, .int .i64 7, .int .i64 7, .int .i64 999999, .int .i64 (-1), .int .i64 1000000] 2)).heap.size = w3.heap.size + 1 := by simp
    rw [e] at h
    exact h
  have HJ3 : Hid (Ints ((w3.alloc (.cells #[.int .i64 0, .int .i64 7, .int .i64 7, .int .i64 999999, .int .i64 (-1), .int .i64 1000000] 2)).alloc (.cells #[.int .i64 1, .int .i64 2, .int .i64 3, .int .i64 4, .int .i64 1, .int .i64 2, .int .i64 0, .int .i64 5] 2)) ((w3.alloc (.cells #[.int .i64 0, .int .i64 7, .int .i64 7, .int .i64 999999, .int .i64 (-1), .int .i64 1000000] 2)).alloc (.cells #[.int .i64 1, .int .i64 2, .int .i64 3, .int .i64 4, .int .i64 1, .int .i64 2, .int .i64 0, .int .i64 5] 2)).heap.size (some ⟨w3.heap.size, 0, none⟩) 6 [0, 7, 7, 999999, -1, 1000000]) := (ints_lit w3 _ [0, 7, 7, 999999, -1, 1000000] _ rfl).later (Below.new _ _)
  have hrz1 := Nat.lt_succ_of_lt rz
  have hpz1 := Nat.lt_succ_of_lt pz
  go_wp2_with fail
  go_region_law (first
  | (go_simp
     go_at_call 46
     with_reducible refine (HKA.out w3.heap.size (w3.alloc (.cells #[.int .i64 1, .int .i64 2, .int .i64 3, .int .i64 4, .int .i64 1, .int .i64 2, .int .i64 0, .int .i64 5] 2)).drew ?_ ?_ ?_).mono ?_
     · exact HSR.out.later HW1.out.drew
     · exact HI1.out
     · omega
     rintro e w5 ⟨jz, hjz, rfl, hd5⟩
     have HD5 := Lib.hid (Drawn.pre (p := w.heap.size + 1) HW1.out hd5.undrew)
     have q0 := (HB3.out.drawn HD5.out (by omega)).cell 0
     have q1 := (HB3.out.drawn HD5.out (by omega)).cell 1
     have qz := (HB3.out.drawn HD5.out (by omega)).lt
     have hw5 := HD5.out.chg.size
     simp at q0 q1
     clear hd5)
  | (go_simp
     go_at_call 46
     with_reducible refine (HKA.out w3.heap.size ((w3.alloc (.cells #[.int .i64 1, .int .i64 2, .int .i64 3, .int .i64 4, .int .i64 1, .int .i64 2, .int .i64 0, .int .i64 5] 2)).alloc (.cells #[.int .i64 0, .int .i64 7, .int .i64 7, .int .i64 999999, .int .i64 (-1), .int .i64 1000000] 2)).drew ?_ ?_ ?_).mono ?_
     · exact HSR.out.later HW2.out.drew
     · exact HI2.out
     · omega
     rintro e w5 ⟨jz, hjz, rfl, hd5⟩
     have HD5 := Lib.hid (Drawn.pre (p := w.heap.size + 1) HW2.out hd5.undrew)
     have HJX := Lib.hid (HJ2.out.drawn hd5.undrew (show w3.heap.size + 1 ≠ w.heap.size + 1 by omega))
     have q0 := (HB3.out.drawn HD5.out (by omega)).cell 0
     have q1 := (HB3.out.drawn HD5.out (by omega)).cell 1
     have qz := (HB3.out.drawn HD5.out (by omega)).lt
     have hw5 := HD5.out.chg.size
     simp at q0 q1
     clear hd5)
  | (go_simp
     go_at_call 46
     with_reducible refine (HKA.out (w3.heap.size + 1) ((w3.alloc (.cells #[.int .i64 0, .int .i64 7, .int .i64 7, .int .i64 999999, .int .i64 (-1), .int .i64 1000000] 2)).alloc (.cells #[.int .i64 1, .int .i64 2, .int .i64 3, .int .i64 4, .int .i64 1, .int .i64 2, .int .i64 0, .int .i64 5] 2)).drew ?_ ?_ ?_).mono ?_
     · exact HSR.out.later HW3.out.drew
     · exact HI3.out
     · omega
     rintro e w5 ⟨jz, hjz, rfl, hd5⟩
     have HD5 := Lib.hid (Drawn.pre (p := w.heap.size + 1) HW3.out hd5.undrew)
     have HJX := Lib.hid (HJ3.out.drawn hd5.undrew (show w3.heap.size ≠ w.heap.size + 1 by omega))
     have q0 := (HB3.out.drawn HD5.out (by omega)).cell 0
     have q1 := (HB3.out.drawn HD5.out (by omega)).cell 1
     have qz := (HB3.out.drawn HD5.out (by omega)).lt
     have hw5 := HD5.out.chg.size
     simp at q0 q1
     clear hd5)
  | (go_simp
     go_at_call 46
     have hguard : Ints w5 w5.heap.size (some ⟨w3.heap.size + 1, 0, none⟩) 6 [0, 7, 7, 999999, -1, 1000000] := by with_reducible exact HJX.out
     clear hguard
     with_reducible refine (HKB.out (w3.heap.size + 1) w5 ?_ ?_ ?_).mono ?_
     · exact HD5.out.src
     · exact HJX.out
     · omega
     rintro e w6 ⟨tz, htz, rfl, hd6⟩
     have HD6 := Lib.hid (HD5.out.trans hd6)
     have hfi := HFIN.out w6 _ jz tz HD6.out
     have u0 := hfi.1.cell 0
     have u1 := hfi.1.cell 1
     have uf0 := hfi.1.frozen 0
     have uf1 := hfi.1.frozen 1
     have uz := hfi.1.lt
     have y0 := hfi.2.1.cell 0
     have y1 := hfi.2.1.cell 1
     have yz := hfi.2.1.lt
     simp at u0 u1 y0 y1
     have HFX := Lib.hid hfi.2.2
     have HRX := Lib.hid hfi.1
     clear hfi hd6)
  | (go_simp
     go_at_call 46
     have hguard : Ints w5 w5.heap.size (some ⟨w3.heap.size, 0, none⟩) 6 [0, 7, 7, 999999, -1, 1000000] := by with_reducible exact HJX.out
     clear hguard
     with_reducible refine (HKB.out w3.heap.size w5 ?_ ?_ ?_).mono ?_
     · exact HD5.out.src
     · exact HJX.out
     · omega
     rintro e w6 ⟨tz, htz, rfl, hd6⟩
     have HD6 := Lib.hid (HD5.out.trans hd6)
     have hfi := HFIN.out w6 _ jz tz HD6.out
     have u0 := hfi.1.cell 0
     have u1 := hfi.1.cell 1
     have uf0 := hfi.1.frozen 0
     have uf1 := hfi.1.frozen 1
     have uz := hfi.1.lt
     have y0 := hfi.2.1.cell 0
     have y1 := hfi.2.1.cell 1
     have yz := hfi.2.1.lt
     simp at u0 u1 y0 y1
     have HFX := Lib.hid hfi.2.2
     have HRX := Lib.hid hfi.1
     clear hfi hd6)
  | (go_simp
     go_at_call 46
     with_reducible refine (HKB.out w5.heap.size (w5.alloc (.cells #[.int .i64 0, .int .i64 7, .int .i64 7, .int .i64 999999, .int .i64 (-1), .int .i64 1000000] 2)) ?_ ?_ ?_).mono ?_
     · exact HD5.out.src.later (Below.new w5 _)
     · exact ints_lit w5 2 [0, 7, 7, 999999, -1, 1000000] _ rfl
     · omega
     rintro e w6 ⟨tz, htz, rfl, hd6⟩
     have HD6 := Lib.hid ((HD5.out.later (Below.new w5 (.cells #[.int .i64 0, .int .i64 7, .int .i64 7, .int .i64 999999, .int .i64 (-1), .int .i64 1000000] 2))).trans hd6)
     have hfi := HFIN.out w6 _ jz tz HD6.out
     have u0 := hfi.1.cell 0
     have u1 := hfi.1.cell 1
     have uf0 := hfi.1.frozen 0
     have uf1 := hfi.1.frozen 1
     have uz := hfi.1.lt
     have y0 := hfi.2.1.cell 0
     have y1 := hfi.2.1.cell 1
     have yz := hfi.2.1.lt
     simp at u0 u1 y0 y1
     have HFX := Lib.hid hfi.2.2
     have HRX := Lib.hid hfi.1
     clear hfi hd6))
  all_goals
    clear p0 p1 pz r0 r1 rf0 rf1 rz hrz1 hpz1 q0 q1 qz y0 y1 yz
    go_wp2_with fail
    have hbf := box_two HRX.out (.slice A0 held.length c0) (.slice A1 asks.length c1)
    have t0 := (hbf.cell 0).trans rfl
    have t1 := (hbf.cell 1).trans rfl
    refine bodyPost_ret (v := .tuple #[.agg #[.slice A0 held.length c0, .slice A1 asks.length c1], .int .i64 jz, .string nm, .slice S ss.length q, .int .i64 tz]) (by simp [results, Tryz.results17, go_sem, t0, t1]) rfl ?_
    exact HFX.out
end Go.Proofs.YtiebcdajoddkpaaGreatDoor

namespace Go.Proofs.YtiebcdajoddkpaaGreatDoor
open Go.RowKit
set_option linter.unusedVariables false

theorem smalls_nil : smalls [] := ⟨by simp, fun d hd => by cases hd⟩
theorem dropAll_small (held asks : List ItD) (job : Int) : smalls (dropAllB held asks job).2.1 ∧ smalls (dropAllB held asks job).2.2.1 := by
  by_cases h : (okB held asks && inB job 1 4) = true
  · exact (dropAll_ok h).2.1.small
  · unfold dropAllB
    rw [if_neg h]
    exact ⟨smalls_nil, smalls_nil⟩
theorem dropAll_yes {held asks : List ItD} {job : Int} (h : (dropAllB held asks job).1 = 0) : (okB held asks && inB job 1 4) = true := by
  by_cases h2 : (okB held asks && inB job 1 4) = true
  · exact h2
  · unfold dropAllB at h
    rw [if_neg h2] at h
    cases h
theorem dropAll_told (held asks : List ItD) (job : Int) : (dropAllB held asks job).2.2.2.length ≤ 4 + asks.length := by
  unfold dropAllB
  split
  · unfold grOk grantB
    have h := grantN_count (asks.filter (notJob job)).length (held.filter (notJob job)) (asks.filter (notJob job)) []
    have h2 := List.length_filter_le (notJob job) asks
    rw [List.length_nil] at h
    show (grantN _ _ _ _).2.2.length ≤ _
    omega
  · show 0 ≤ _
    omega
/-- Drawn or answered locks, as they are read. -/
theorem OwnIts.read {w : World} {base t : Nat} {A : Option Addr} {n c : Nat} {fs : List ItD} {vs : List Value} (h : OwnIts w base t (.slice A n c) fs vs) : n = fs.length ∧ n ≤ c ∧ Its w w.heap.size A n fs := by
  obtain ⟨A', c', e, h1, _, h2⟩ := h.its
  injection e with e1 e2 e3
  subst e1 e2 e3
  exact ⟨rfl, h1, h2⟩
theorem row_ints {w : World} {base n c : Nat} {A : Option Addr} {zs : List Int} (h : w.ownsRow base 2 1 (.slice A n c) n (zs.map (Value.int .i64))) : Ints w w.heap.size A n zs := by
  obtain ⟨A', c', e, _, h2⟩ := own_ints h
  injection e with e1 _ e3
  subst e1 e3
  exact h2
theorem OkP.jobs {h a : List ItD} (ho : OkP h a) : (∀ d ∈ h, 1 ≤ d.a ∧ d.a ≤ 4) ∧ (∀ d ∈ a, 1 ≤ d.a ∧ d.a ≤ 4) := by
  constructor
  · intro d hd
    have h3 := ho.hok d hd
    unfold hOk1 inB at h3
    simp only [Bool.and_eq_true, decide_eq_true_eq] at h3
    omega
  · intro d hd
    have h3 := (ho.aok d hd).1
    unfold inB at h3
    simp only [Bool.and_eq_true, decide_eq_true_eq] at h3
    omega
set_option maxRecDepth 100000 in
set_option maxHeartbeats 8000000 in
theorem fnLB_walk (A : Option Addr) (n c : Nat) (w : World) (htab : tabT w) (h : BytesR w w.heap.size A n) (hn : n ≤ 9223372036854775807) :
    Calls Tryz.prog 3 #[.slice A n c] w fun e w' => e = .returned (.bool true) ∧ Below w.heap.size w w' := by
  have HK1 := Lib.hid (c2Big_any A n c w hn)
  by_cases hbig : 1048576 < n
  · rw [decide_eq_true hbig] at HK1
    clear h htab
    go_enter Tryz.func3, Tryz.ntmps3
    go_wp2_with fail
    refine HK1.out.mono ?_
    rintro e w1 ⟨rfl, rfl⟩
    go_wp2_with fail
    go_ret
    exact ⟨rfl, Below.refl _ _⟩
  · rw [decide_eq_false hbig] at HK1
    have HK2 := Lib.hid (DrawDropAll_any A n c w h (by omega))
    have HTB := Lib.hid htab
    clear h htab
    go_enter Tryz.func3, Tryz.ntmps3
    go_wp2_with fail
    refine HK1.out.mono ?_
    rintro e w1 ⟨rfl, rfl⟩
    go_wp2_with fail
    refine HK2.out.mono ?_
    rintro e w1 ⟨v0, v1, held, asks, vs, us, job, rfl, g0, g1, hs0, hs1, hb1⟩
    obtain ⟨A0, c0, rfl, hc0, _, _⟩ := own_slice g0.row
    obtain ⟨A1, c1, rfl, hc1, _, _⟩ := own_slice g1.row
    have HB1 := Lib.hid (hb1.later (Below.new w1 (.cells #[.slice A0 held.length c0, .slice A1 asks.length c1] 27)))
    have G0 := Lib.hid (g0.later (Below.new w1 (.cells #[.slice A0 held.length c0, .slice A1 asks.length c1] 27)))
    have G1 := Lib.hid (g1.later (Below.new w1 (.cells #[.slice A0 held.length c0, .slice A1 asks.length c1] 27)))
    have HX3 : Hid (Blk (w1.alloc (.cells #[.slice A0 held.length c0, .slice A1 asks.length c1] 27)) w1.heap.size 27 #[.slice A0 held.length c0, .slice A1 asks.length c1]) := heap_last rfl
    have HK3 := Lib.hid (implDropAll_any A0 A1 held.length c0 asks.length c1 held asks job _ (tab_later HTB.out HB1.out) G0.out.read.2.2 G1.out.read.2.2 hs0 hs1 hc0)
    have HSM := Lib.hid (dropAll_small held asks job)
    have HTO := Lib.hid (dropAll_told held asks job)
    have HYES := Lib.hid (@dropAll_yes held asks job)
    have HDOK := Lib.hid (@dropAll_ok held asks job)
    have HS01 := Lib.hid (And.intro hs0 hs1)
    have hla := hs1.1
    clear g0 g1 hb1 hs0 hs1 HK1 HK2
    have HK4 := Lib.hid (fun W (h0 : Its W W.heap.size A0 held.length held) (h1 : Its W W.heap.size A1 asks.length asks) => specDropAll_any A0 A1 held.length c0 asks.length c1 held asks job W h0 h1 HS01.out.1 HS01.out.2)
    generalize dropAllB held asks job = r at *
    obtain ⟨code, rh, ra, told⟩ := r
    go_wp2_with fail
    refine HK3.out.mono ?_
    rintro e w2 ⟨x0, x1, vs2, us2, vo, rfl, k0, k1, kx, kr, hb2⟩
    obtain ⟨B0, d0, rfl, hd0, _, _⟩ := own_slice k0.row
    obtain ⟨B1, d1, rfl, hd1, _, _⟩ := own_slice k1.row
    obtain ⟨T0, e0, rfl, he0, _, _⟩ := own_slice kr
    have hb27 : w.heap.size ≤ w2.heap.size := Nat.le_trans HB1.out.size hb2.size
    have hnb := Below.new w2 (.cells #[.slice B0 rh.length d0, .slice B1 ra.length d1] 27)
    have HB2 := Lib.hid ((HB1.out.later hb2).later hnb)
    have hw1 := HB1.out.size
    have K0 := Lib.hid ((k0.base hw1).later hnb)
    have K1 := Lib.hid ((k1.base hw1).later hnb)
    have KR := Lib.hid (own_later (own_base kr hw1) hnb)
    have HX3' := Lib.hid ((HX3.out.later hb2 HX3.out.lt).later hnb (Nat.lt_of_lt_of_le HX3.out.lt hb2.size))
    have HX5 : Hid (Blk (w2.alloc (.cells #[.slice B0 rh.length d0, .slice B1 ra.length d1] 27)) w2.heap.size 27 #[.slice B0 rh.length d0, .slice B1 ra.length d1]) := heap_last rfl
    have HK4' := Lib.hid (HK4.out (w2.alloc (.cells #[.slice B0 rh.length d0, .slice B1 ra.length d1] 27)) ((G0.out.later hb2).later hnb).read.2.2 ((G1.out.later hb2).later hnb).read.2.2)
    have p0 := (HX3.out.later hb2 HX3.out.lt).cell 0
    have p1 := (HX3.out.later hb2 HX3.out.lt).cell 1
    have pz := (HX3.out.later hb2 HX3.out.lt).lt
    simp at p0 p1
    clear k0 k1 kx kr hb2 hnb HK3 HK4 HX3 G0 G1
    go_wp2_with fail
    refine HK4'.out.mono ?_
    rintro e w3 ⟨y0, y1, vs3, us3, vo3, rfl, m0, m1, mx, mr, hb3⟩
    obtain ⟨C0, f0, rfl, hf0, _, _⟩ := own_slice m0.row
    obtain ⟨C1, f1, rfl, hf1, _, _⟩ := own_slice m1.row
    obtain ⟨T1, e1, rfl, he1, _, _⟩ := own_slice mr
    have hnb := Below.new w3 (.cells #[.slice C0 rh.length f0, .slice C1 ra.length f1] 27)
    have hbb := hb3.later hnb
    have HB3 := Lib.hid (HB2.out.later hbb)
    have K0' := Lib.hid (K0.out.later hbb)
    have K1' := Lib.hid (K1.out.later hbb)
    have KR' := Lib.hid (row_ints (own_later KR.out hbb))
    have M0 := Lib.hid (m0.later hnb)
    have M1 := Lib.hid (m1.later hnb)
    have MR := Lib.hid (row_ints (own_later mr hnb))
    have HX5w := HX5.out.later hb3 HX5.out.lt
    have HX5' := Lib.hid (HX5.out.later hbb HX5.out.lt)
    have HX8 : Hid (Blk (w3.alloc (.cells #[.slice C0 rh.length f0, .slice C1 ra.length f1] 27)) w3.heap.size 27 #[.slice C0 rh.length f0, .slice C1 ra.length f1]) := heap_last rfl
    have HK5 := Lib.hid (SameLocks_same B0 B1 C0 C1 rh.length d0 ra.length d1 f0 f1 rh ra _ K0'.out.read.2.2 K1'.out.read.2.2 M0.out.read.2.2 M1.out.read.2.2 HSM.out.1 HSM.out.2)
    have q0 := HX5w.cell 0
    have q1 := HX5w.cell 1
    have qz := HX5w.lt
    simp at q0 q1
    have hcc : (code != code) = false := by simp
    clear m0 m1 mx mr hb3 hnb hbb HX5w HX5 HX3' HK4' K0 K1 KR p0 p1 pz
    go_wp2_with fail
    refine HK5.out.mono ?_
    rintro e w4 ⟨rfl, hb4⟩
    have HK6 := Lib.hid (c2Ints_same T0 T1 told.length e0 e1 told w4 (KR'.out.later hb4) (MR.out.later hb4) (by have := HTO.out; omega))
    have HB4 := Lib.hid (HB3.out.later hb4)
    have K04 := Lib.hid (K0'.out.later hb4)
    have K14 := Lib.hid (K1'.out.later hb4)
    have HX54 := Lib.hid (HX5'.out.later hb4 HX5'.out.lt)
    clear hb4 HK5 q0 q1 qz HX8 M0 M1 K0' K1' HX5'
    go_wp2_with fail
    refine HK6.out.mono ?_
    rintro e w5 ⟨rfl, hb5⟩
    have HB5 := Lib.hid (HB4.out.later hb5)
    have K05 := Lib.hid (K04.out.later hb5)
    have K15 := Lib.hid (K14.out.later hb5)
    have HX55 := Lib.hid (HX54.out.later hb5 HX54.out.lt)
    clear hb5 HK6 K04 K14 HX54 KR' MR
    by_cases hc : code = 0
    · subst hc
      have HY := HYES.out rfl
      obtain ⟨_, hok, hall⟩ := HDOK.out HY
      have HOK := Lib.hid hok
      have HNE := Lib.hid ((hall (fun a => a ≠ job) (fun d _ h => h) (fun d _ h => h)).1)
      clear hok hall HY HYES HDOK HSM
      try dsimp only at HOK HNE
      have q0 := HX55.out.cell 0
      have q1 := HX55.out.cell 1
      have qz := HX55.out.lt
      simp at q0 q1
      go_wp2_with fail
      go_loopw [11] (fun i wr => ∃ k : Nat, k ≤ rh.length ∧ i = .int .i64 k ∧ Below w5.heap.size w5 wr) (fun i _ => rh.length - (intOf i).toNat)
      case atStart => exact ⟨0, Nat.zero_le _, rfl, Below.refl _ _⟩
      case round =>
        obtain ⟨k, hk, rfl, hb⟩ := hrel
        have HB := Lib.hid hb
        have r0 := cell_later hb q0
        have r1 := cell_later hb q1
        have rz := Nat.lt_of_lt_of_le qz hb.size
        have hlen := HOK.out.hlen
        clear hb
        by_cases hlt : k < rh.length
        · obtain ⟨b1, o1, rfl, _, hc1⟩ := (K05.out.later HB.out).read.2.2.2 (by omega)
          obtain ⟨c0', c1', c2', c3', z0, z1, z2, z3, hr⟩ := hc1 k hlt
          obtain ⟨rfl, rfl, rfl, A5, n5, cap5, rfl, _, _⟩ := hr
          have hne := HNE.out _ (getD_mem rh k hlt)
          clear hc1
          generalize rh.getD k default = dd at *
          generalize dd.a = da at *
          have hne2 : (da == job) = false := beq_eq_false_iff_ne.2 hne
          go_wp2_with fail
          go_roundw
          case rel => exact ⟨k + 1, by omega, by go_num, HB.out⟩
          case measure => simp [intOf]; omega
        · obtain rfl : k = rh.length := by omega
          have HBw := Lib.hid (HB5.out.later HB.out)
          have L0 := Lib.hid (K05.out.later HB.out)
          have L1 := Lib.hid (K15.out.later HB.out)
          have HXw := Lib.hid (HX55.out.later HB.out HX55.out.lt)
          go_wp2_with fail
          clear q0 q1 qz r0 r1 rz HB K05 K15 HX55 HB5
          go_loopw [12] (fun kv wr => ∃ (k : Nat) (h a : List ItD) (hv av : List Value) (v0 v1 : Value), kv = .int .i64 k ∧ 1 ≤ k ∧ k ≤ 5 ∧ Hid (OkP h a) ∧ Hid (∀ d ∈ h, ¬ d.a < (k : Int)) ∧ Hid (∀ d ∈ a, ¬ d.a < (k : Int)) ∧ Hid (OwnIts wr w.heap.size 37 v0 h hv) ∧ Hid (OwnIts wr w.heap.size 42 v1 a av) ∧ Hid (Blk wr w2.heap.size 27 #[v0, v1]) ∧ Hid (Below w.heap.size w wr)) (fun kv _ => 5 - (intOf kv).toNat)
          case atStart => exact ⟨1, rh, ra, vs2, us2, _, _, rfl, by omega, by omega, HOK.out, (fun d hd => by have := (HOK.out.jobs.1 d hd).1; omega), (fun d hd => by have := (HOK.out.jobs.2 d hd).1; omega), L0.out, L1.out, HXw.out, HBw.out⟩
          case round =>
            obtain ⟨k, h, a, hv, av, z0, z1, rfl, hk1, hk5, HO, HH, HA, HL0, HL1, HBX, HBr⟩ := hrel
            clear HBw L0 L1 HXw HOK HNE
            obtain ⟨E0, g0, rfl, hg0, _, _⟩ := own_slice HL0.out.row
            obtain ⟨E1, g1, rfl, hg1, _, _⟩ := own_slice HL1.out.row
            have b0 := HBX.out.cell 0
            have b1 := HBX.out.cell 1
            have bz := HBX.out.lt
            simp at b0 b1
            by_cases hk4 : k ≤ 4
            · have HK := Lib.hid (implDropAll_any E0 E1 h.length g0 a.length g1 h a (k : Int) wr (tab_later HTB.out HBr.out) HL0.out.read.2.2 HL1.out.read.2.2 HO.out.small.1 HO.out.small.2 hg0)
              have hyes : (okB h a && inB (k : Int) 1 4) = true := by
                rw [HO.out.okB]
                unfold inB
                rw [decide_eq_true (by omega), decide_eq_true (by omega)]
                rfl
              obtain ⟨hd1, hd2, hd3⟩ := dropAll_ok hyes
              have hd4 := hd3 (fun a => ¬ a < ((k + 1 : Nat) : Int)) (fun d hd hne => by have := HH.out d hd; omega) (fun d hd hne => by have := HA.out d hd; omega)
              generalize dropAllB h a (k : Int) = r at *
              obtain ⟨code, h2, a2, told2⟩ := r
              obtain rfl : code = 0 := hd1
              have HD2 := Lib.hid hd2
              have HD4 := Lib.hid hd4
              clear hyes hd2 hd3 hd4 hd1
              go_wp2_with fail
              refine HK.out.mono ?_
              rintro e w6 ⟨x0, x1, vs6, us6, vo6, rfl, n0, n1, nx, nr, hb6⟩
              obtain ⟨D0, i0, rfl, _, _, _⟩ := own_slice n0.row
              obtain ⟨D1, i1, rfl, _, _, _⟩ := own_slice n1.row
              have HBX6 := Lib.hid (HBX.out.later hb6 bz)
              have hwr := HBr.out.size
              have N0 := Lib.hid ((n0.base hwr).two HBX6.out (by decide) (a := .slice D0 h2.length i0) (b := .slice D1 a2.length i1))
              have N1 := Lib.hid ((n1.base hwr).two HBX6.out (by decide) (a := .slice D0 h2.length i0) (b := .slice D1 a2.length i1))
              have NB := Lib.hid (box_two HBX6.out (.slice D0 h2.length i0) (.slice D1 a2.length i1))
              have NL := Lib.hid (below_two (HBr.out.later hb6) (show w.heap.size ≤ w2.heap.size from hb27) (.slice D0 h2.length i0) (.slice D1 a2.length i1))
              have hnb := Below.new ((w6.setCell ⟨w2.heap.size, 0, none⟩ (.slice D0 h2.length i0)).setCell ⟨w2.heap.size, 1, none⟩ (.slice D1 a2.length i1)) (.cells #[.slice D0 h2.length i0, .slice D1 a2.length i1] 27)
              have N0' := Lib.hid (N0.out.later hnb)
              have N1' := Lib.hid (N1.out.later hnb)
              have NB' := Lib.hid (NB.out.later hnb NB.out.lt)
              have NL' := Lib.hid (NL.out.later hnb)
              clear b0 b1 bz
              have b0 := HBX6.out.cell 0
              have b1 := HBX6.out.cell 1
              have bf0 := HBX6.out.frozen 0
              have bf1 := HBX6.out.frozen 1
              have bz := HBX6.out.lt
              simp at b0 b1
              clear n0 n1 nx nr hb6 hnb N0 N1 NB NL HK
              go_wp2_with fail
              go_roundw
              case rel => exact ⟨k + 1, h2, a2, vs6, us6, _, _, by go_num, by omega, by omega, HD2.out, (fun d hd => by have := HD4.out.1 d hd; omega), (fun d hd => by have := HD4.out.2 d hd; omega), N0'.out, N1'.out, NB'.out, NL'.out⟩
              case measure => simp [intOf]; omega
            · obtain rfl : k = 5 := by omega
              obtain ⟨rfl, rfl⟩ := no_jobs HO.out (fun d hd => by have := HH.out d hd; omega) (fun d hd => by have := HA.out d hd; omega)
              go_wp2_with fail
              go_ret
              exact ⟨rfl, HBr.out⟩
    · have hc2 : (code != 0) = true := by simpa using hc
      go_wp2_with fail
      go_ret
      exact ⟨rfl, HB5.out⟩
end Go.Proofs.YtiebcdajoddkpaaGreatDoor

