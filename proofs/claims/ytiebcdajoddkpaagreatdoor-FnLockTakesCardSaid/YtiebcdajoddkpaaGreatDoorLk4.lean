/-
  Locks: what l24Blocks of the reference computes, as far as it matters: whether anyone stands in the way.
-/
import Derived.Test.YtiebcdajoddkpaaGreatDoorLk3
namespace Go.Proofs.YtiebcdajoddkpaaGreatDoor
open Go.RowKit

def hBlkP (job : Int) (nm : ByteArray) (ss : List ByteArray) (h : ItD) : Bool := decide (h.a ≠ job) && wayB h.name h.subs nm ss
def aBlkP (held : List ItD) (job : Int) (nm : ByteArray) (ss : List ByteArray) (a : ItD) : Bool := decide (a.a ≠ job) && wayB a.name a.subs nm ss && !heldUp held job a.name a.subs
def blkR (own : Int) (p : ItD → Bool) : List ItD → Nat → Bool
  | [], _ => false
  | a :: r, k => (!(decide (0 ≤ own) && decide (own < (k : Int))) && p a) || blkR own p r (k + 1)
def blocksB (held asks : List ItD) (job : Int) (nm : ByteArray) (ss : List ByteArray) : Bool := held.any (hBlkP job nm ss) || blkR (askAt asks job) (aBlkP held job nm ss) asks 0
theorem blkR_step (own : Int) (p : ItD → Bool) (l : List ItD) (k : Nat) (h : k < l.length) : blkR own p (l.drop k) k = ((!(decide (0 ≤ own) && decide (own < (k : Int))) && p (l.getD k default)) || blkR own p (l.drop (k + 1)) (k + 1)) := by
  rw [List.drop_eq_getElem_cons h, blkR, List.getD_eq_getElem?_getD, List.getElem?_eq_getElem h]
  rfl

def BlkPost (R : Bool) (w : World) (e : Ending) (w' : World) : Prop := ∃ A m c, e = .returned (.slice A m c) ∧ decide (0 < m) = R ∧ m ≤ 2097152 ∧ Below w.heap.size w w'

set_option maxRecDepth 100000 in
set_option maxHeartbeats 4000000 in
theorem l24Blocks_any (A A' S : Option Addr) (n c n' c' m q : Nat) (held asks : List ItD) (job : Int) (nm : ByteArray) (ss : List ByteArray) (w : World) (h : Its w w.heap.size A n held) (ha : Its w w.heap.size A' n' asks) (hs : smalls held) (hsa : smalls asks) (h' : Strs w w.heap.size S m ss) (hm : m ≤ 1048576) :
    Calls Tryz.prog 58 #[.agg #[.slice A n c, .slice A' n' c'], .int .i64 job, .string nm, .slice S m q] w (BlkPost (blocksB held asks job nm ss) w) := by
  have Hh := Lib.hid h
  have Ha := Lib.hid ha
  have Hh' := Lib.hid h'
  have Hlen := Lib.hid h.1
  have Hlena := Lib.hid ha.1
  have hn : n ≤ 1048576 := by rw [← h.1]; exact hs.1
  have hn' : n' ≤ 1048576 := by rw [← ha.1]; exact hsa.1
  have Hs := Lib.hid hs
  have Hsa := Lib.hid hsa
  have HR : Hid (blocksB held asks job nm ss = (held.any (hBlkP job nm ss) || blkR (askAt asks job) (aBlkP held job nm ss) asks 0)) := rfl
  have hob1 := (idxF_bd (jobP job) asks 0).1
  have hob2 := (idxF_bd (jobP job) asks 0).2
  change -1 ≤ askAt asks job at hob1
  change askAt asks job < _ at hob2
  rw [ha.1] at hob2
  have HKA := Lib.hid (fun W (hW : Below w.heap.size w W) => l24Ask_any A A' n c n' c' asks job W (ha.later hW) hn')
  have HKH := Lib.hid (fun W (hW : Below w.heap.size w W) nm2 A1 n1 c1 ss1 (hs1 : Strs W W.heap.size A1 n1 ss1) (hn1 : n1 ≤ 1048576) => l24HeldUp_any A A' A1 n c n' c' n1 c1 held job nm2 ss1 W (h.later hW) hs hs1 hn1)
  clear h ha h' hs hsa
  generalize blocksB held asks job nm ss = R at *
  generalize askAt asks job = own at *
  go_enter Tryz.func58, Tryz.ntmps58
  go_wp2_with fail
  go_loopw [9, 10] (fun v i wr => ∃ (k p cp : Nat) (AP : Option Addr) (ys : List Int), k ≤ n ∧ i = .int .i64 k ∧ v = .slice AP p cp ∧ p ≤ k ∧ Ints wr wr.heap.size AP p ys ∧ Below (w.heap.size + 1) (w.alloc (.cells #[.slice A n c, .slice A' n' c'] 27)) wr ∧ Hid (held.any (hBlkP job nm ss) = (decide (0 < p) || (held.drop k).any (hBlkP job nm ss)))) (fun _ i _ => n - (intOf i).toNat)
  case atStart => exact ⟨0, 0, _, _, [], Nat.zero_le _, rfl, rfl, Nat.le_refl _, Ints.zero, (Below.refl _ _).alloc (by simp) _, rfl⟩
  case round =>
    obtain ⟨k, p, cp, AP, ys, hk, rfl, rfl, hp, hI, hb, hS⟩ := hrel
    have p0 := (Blk.later (heap_alloc_new w _) hb (by omega)).cell
    have hz0 : w.heap.size < wr.heap.size := by have := hb.size; simp at this; omega
    have HB := Lib.hid hb
    have HBw := Lib.hid ((Below.new _ _).trans (hb.mono (by omega)))
    have HI := Lib.hid hI
    clear hb hI
    by_cases hlt : k < n
    · obtain ⟨bb, o, rfl, hbB, hc'⟩ := (Hh.out.later HBw.out).2 (by omega)
      obtain ⟨c0, c1, c2, c3, k0, k1, k2, k3, hr⟩ := hc' k hlt
      clear hc'
      have hl1 : k < held.length := by rw [Hlen.out]; exact hlt
      have HS := Lib.hid (any_step (hBlkP job nm ss) held k hl1)
      have hsm := Hs.out.2 _ (getD_mem held k hl1)
      clear hl1
      generalize held.getD k default = d at *
      obtain ⟨e0, e1, e2, A1, n1, cap1, e3, hs1, _⟩ := hr
      subst e0 e1 e2 e3
      have hn1 : n1 ≤ 1048576 := by rw [← hs1.1]; exact hsm.2.1
      have HK := Lib.hid (fun W (hW : Below wr.heap.size wr W) => l24Way_any d.name nm A1 S n1 cap1 m q d.subs ss W (hs1.later hW) ((Hh'.out.later HBw.out).later hW) hn1 hm)
      have HP : Hid (hBlkP job nm ss d = (decide (d.a ≠ job) && wayB d.name d.subs nm ss)) := rfl
      clear hs1 hsm
      generalize wayB d.name d.subs nm ss = x at *
      generalize d.a = da at *
      by_cases hj : da = job
      · subst hj
        have HP2 : Hid (hBlkP da nm ss d = false) := by unfold Hid; rw [HP.out]; simp
        go_wp2_with fail
        go_roundw
        case rel => exact ⟨k + 1, p, _, _, ys, by omega, by go_num, rfl, by omega, HI.out.later (Below.new _ _), HB.out.alloc (by omega) _, by unfold Hid; rw [hS.out, HS.out, HP2.out]; rfl⟩
        case measure => simp [intOf]; omega
      · have hb2 : (da != job) = true := by rw [bne_iff_ne]; exact hj
        have HP2 : Hid (hBlkP job nm ss d = x) := by unfold Hid; rw [HP.out]; simp [hj]
        clear hj
        go_wp2_with fail
        refine (HK.out _ (Below.new _ _)).mono ?_
        rintro e w1 ⟨rfl, q1, rfl⟩
        cases x
        · go_wp2_with fail
          go_roundw
          case rel => exact ⟨k + 1, p, _, _, ys, by omega, by go_num, rfl, by omega, (HI.out.later (Below.new _ _)).keep (fun _ _ => rfl), below_drewN (HB.out.alloc (by omega) _) _, by unfold Hid; rw [hS.out, HS.out, HP2.out]; rfl⟩
          case measure => simp [intOf]; omega
        · go_wp2_with fail
          refine (l00Put_any AP p cp ys da _ (by exact (HI.out.later (Below.new _ _)).keep (fun _ _ => rfl)) (by omega)).mono ?_
          rintro e w2 ⟨A2, m2, c2, ys2, rfl, hpos, hle, hI2, hb2'⟩
          have HI2 := Lib.hid hI2
          have HB2 := Lib.hid ((below_drewN (HB.out.alloc (by omega) _) q1).trans (hb2'.mono (by have := HB.out.size; simp at this ⊢; omega)))
          clear hI2 hb2'
          go_wp2_with fail
          go_roundw
          case rel => exact ⟨k + 1, m2, _, _, ys2, by omega, by go_num, rfl, by omega, HI2.out, HB2.out, by unfold Hid; rw [hS.out, HS.out, HP2.out, decide_eq_true hpos]; simp⟩
          case measure => simp [intOf]; omega
    · have HE1 : Hid (held.any (hBlkP job nm ss) = decide (0 < p)) := by unfold Hid; rw [hS.out, List.drop_of_length_le (by rw [Hlen.out]; omega)]; simp
      clear hS
      go_wp2_with fail
      refine (HKA.out _ HBw.out).mono ?_
      rintro e w1 ⟨rfl, hb1⟩
      have HB1 := Lib.hid (HB.out.trans (hb1.mono (by omega)))
      have HI1 := Lib.hid (HI.out.later hb1)
      clear hb1 HB HI HBw p0 hz0
      go_wp2_with fail
      go_loopw [9, 13] (fun v i wr => ∃ (k p cp : Nat) (AP : Option Addr) (ys : List Int), k ≤ n' ∧ i = .int .i64 k ∧ v = .slice AP p cp ∧ p ≤ n + k ∧ Ints wr wr.heap.size AP p ys ∧ Below (w.heap.size + 1) (w.alloc (.cells #[.slice A n c, .slice A' n' c'] 27)) wr ∧ Hid (R = (decide (0 < p) || blkR own (aBlkP held job nm ss) (asks.drop k) k))) (fun _ i _ => n' - (intOf i).toNat)
      case atStart => exact ⟨0, p, _, _, ys, Nat.zero_le _, rfl, rfl, by omega, HI1.out, HB1.out, by unfold Hid; rw [HR.out, HE1.out]; rfl⟩
      case round =>
        clear hlt hk hp
        obtain ⟨k, p, cp, AP, ys, hk, rfl, rfl, hp, hI, hb, hS⟩ := hrel
        have p0 := (Blk.later (heap_alloc_new w _) hb (by omega)).cell
        have hz0 : w.heap.size < wr.heap.size := by have := hb.size; simp at this; omega
        have HB := Lib.hid hb
        have HBw := Lib.hid ((Below.new _ _).trans (hb.mono (by omega)))
        have HI := Lib.hid hI
        clear hb hI
        by_cases hlt : k < n'
        · obtain ⟨bb, o, rfl, hbB, hc'⟩ := (Ha.out.later HBw.out).2 (by omega)
          obtain ⟨c0, c1, c2, c3, k0, k1, k2, k3, hr⟩ := hc' k hlt
          clear hc'
          have hl1 : k < asks.length := by rw [Hlena.out]; exact hlt
          have HS := Lib.hid (blkR_step own (aBlkP held job nm ss) asks k hl1)
          have hsm := Hsa.out.2 _ (getD_mem asks k hl1)
          clear hl1
          generalize asks.getD k default = d at *
          obtain ⟨e0, e1, e2, A1, n1, cap1, e3, hs1, _⟩ := hr
          subst e0 e1 e2 e3
          have hn1 : n1 ≤ 1048576 := by rw [← hs1.1]; exact hsm.2.1
          have HK := Lib.hid (fun W (hW : Below wr.heap.size wr W) => l24Way_any d.name nm A1 S n1 cap1 m q d.subs ss W (hs1.later hW) ((Hh'.out.later HBw.out).later hW) hn1 hm)
          have HK2 := Lib.hid (fun W (hW : Below wr.heap.size wr W) => HKH.out W (HBw.out.later hW) d.name A1 n1 cap1 d.subs (hs1.later hW) hn1)
          have HP : Hid (aBlkP held job nm ss d = (decide (d.a ≠ job) && wayB d.name d.subs nm ss && !heldUp held job d.name d.subs)) := rfl
          have HNo : Hid ((!(decide (0 ≤ own) && decide (own < (k : Int))) && aBlkP held job nm ss d) = false → R = (decide (0 < p) || blkR own (aBlkP held job nm ss) (asks.drop (k + 1)) (k + 1))) := fun hf => by rw [hS.out, HS.out, hf]; rfl
          have HYes : Hid ((!(decide (0 ≤ own) && decide (own < (k : Int))) && aBlkP held job nm ss d) = true → R = true) := fun hf => by rw [hS.out, HS.out, hf]; simp
          clear hs1 hsm HKH HKA
          generalize wayB d.name d.subs nm ss = x at *
          generalize heldUp held job d.name d.subs = y at *
          generalize d.a = da at *
          by_cases hj : da = job
          · subst hj
            have HP2 : Hid (aBlkP held da nm ss d = false) := by unfold Hid; rw [HP.out]; simp
            go_wp2_with fail
            go_roundw
            case rel => exact ⟨k + 1, p, _, _, ys, by omega, by go_num, rfl, by omega, HI.out.later (Below.new _ _), HB.out.alloc (by omega) _, HNo.out (by rw [HP2.out, Bool.and_false])⟩
            case measure => simp [intOf]; omega
          · have hb2 : (da == job) = false := by rw [beq_eq_false_iff_ne]; exact hj
            have HP2 : Hid (aBlkP held job nm ss d = (x && !y)) := by unfold Hid; rw [HP.out]; simp [hj]
            clear hj
            by_cases hw : 0 ≤ own ∧ own < (k : Int)
            · obtain ⟨h1, h2⟩ := hw
              have HNo2 := Lib.hid (HNo.out (by rw [decide_eq_true h1, decide_eq_true h2]; rfl))
              clear HNo HYes
              go_wp2_with fail
              go_roundw
              case rel => exact ⟨k + 1, p, _, _, ys, by omega, by go_num, rfl, by omega, HI.out.later (Below.new _ _), HB.out.alloc (by omega) _, HNo2.out⟩
              case measure => simp [intOf]; omega
            · have HG : Hid ((!(decide (0 ≤ own) && decide (own < (k : Int)))) = true) := by unfold Hid; rw [Bool.not_eq_true', Bool.and_eq_false_iff, decide_eq_false_iff_not, decide_eq_false_iff_not]; omega
              have HNo2 : Hid ((x && !y) = false → R = (decide (0 < p) || blkR own (aBlkP held job nm ss) (asks.drop (k + 1)) (k + 1))) := fun hf => HNo.out (by rw [HP2.out, hf, Bool.and_false])
              have HYes2 : Hid ((x && !y) = true → R = true) := fun hf => HYes.out (by rw [HP2.out, hf, HG.out]; rfl)
              clear HNo HYes
              by_cases h1 : 0 ≤ own
              · have h2 : ¬ own < (k : Int) := fun h2 => hw ⟨h1, h2⟩
                clear hw
                go_wp2_with fail
                refine (HK.out _ (Below.new _ _)).mono ?_
                rintro e w1 ⟨rfl, q1, rfl⟩
                cases x
                · go_wp2_with fail
                  go_roundw
                  case rel => exact ⟨k + 1, p, _, _, ys, by omega, by go_num, rfl, by omega, (HI.out.later (Below.new _ _)).keep (fun _ _ => rfl), below_drewN (HB.out.alloc (by omega) _) _, HNo2.out rfl⟩
                  case measure => simp [intOf]; omega
                · go_wp2_with fail
                  refine (HK2.out _ (by exact below_drewN (Below.new _ _) _)).mono ?_
                  rintro e w2 ⟨rfl, hb3⟩
                  have hy0 := hb3.size
                  have z2 : wr.heap.size < w2.heap.size := by simp at hy0; omega
                  have HB3 := Lib.hid ((below_drewN (HB.out.alloc (by omega) _) q1).trans (hb3.mono (by have := HB.out.size; simp at this ⊢; omega)))
                  have HI3 := Lib.hid (((HI.out.later (Below.new _ _)).keep (fun _ _ => rfl) : Ints ((wr.alloc _).drewN q1) _ _ _ _).later hb3)
                  have r0 := (Blk.later (heap_alloc_new wr _) (undrewN hb3) (by simp)).cell
                  clear hb3 hy0
                  cases y
                  · have HR1 := Lib.hid (HYes2.out rfl)
                    clear HYes2 HNo2
                    go_wp2_with fail
                    refine (l00Put_any AP p cp ys da _ (by exact HI3.out) (by omega)).mono ?_
                    rintro e w3 ⟨A2, m2, c2, ys2, rfl, hpos, hle, hI2, hb2'⟩
                    have HI2 := Lib.hid hI2
                    have HB2 := Lib.hid (HB3.out.trans (hb2'.mono (by have := HB3.out.size; simp at this ⊢; omega)))
                    clear hI2 hb2'
                    go_wp2_with fail
                    go_roundw
                    case rel => exact ⟨k + 1, m2, _, _, ys2, by omega, by go_num, rfl, by omega, HI2.out, HB2.out, by unfold Hid; rw [HR1.out, decide_eq_true hpos]; rfl⟩
                    case measure => simp [intOf]; omega
                  · have HR1 := Lib.hid (HNo2.out rfl)
                    clear HYes2 HNo2
                    go_wp2_with fail
                    go_roundw
                    case rel => exact ⟨k + 1, p, _, _, ys, by omega, by go_num, rfl, by omega, HI3.out, HB3.out, HR1.out⟩
                    case measure => simp [intOf]; omega
              · have hneg : own < 0 := by omega
                clear hw h1
                go_wp2_with fail
                refine (HK.out _ (Below.new _ _)).mono ?_
                rintro e w1 ⟨rfl, q1, rfl⟩
                cases x
                · go_wp2_with fail
                  go_roundw
                  case rel => exact ⟨k + 1, p, _, _, ys, by omega, by go_num, rfl, by omega, (HI.out.later (Below.new _ _)).keep (fun _ _ => rfl), below_drewN (HB.out.alloc (by omega) _) _, HNo2.out rfl⟩
                  case measure => simp [intOf]; omega
                · go_wp2_with fail
                  refine (HK2.out _ (by exact below_drewN (Below.new _ _) _)).mono ?_
                  rintro e w2 ⟨rfl, hb3⟩
                  have hy0 := hb3.size
                  have z2 : wr.heap.size < w2.heap.size := by simp at hy0; omega
                  have HB3 := Lib.hid ((below_drewN (HB.out.alloc (by omega) _) q1).trans (hb3.mono (by have := HB.out.size; simp at this ⊢; omega)))
                  have HI3 := Lib.hid (((HI.out.later (Below.new _ _)).keep (fun _ _ => rfl) : Ints ((wr.alloc _).drewN q1) _ _ _ _).later hb3)
                  have r0 := (Blk.later (heap_alloc_new wr _) (undrewN hb3) (by simp)).cell
                  clear hb3 hy0
                  cases y
                  · have HR1 := Lib.hid (HYes2.out rfl)
                    clear HYes2 HNo2
                    go_wp2_with fail
                    refine (l00Put_any AP p cp ys da _ (by exact HI3.out) (by omega)).mono ?_
                    rintro e w3 ⟨A2, m2, c2, ys2, rfl, hpos, hle, hI2, hb2'⟩
                    have HI2 := Lib.hid hI2
                    have HB2 := Lib.hid (HB3.out.trans (hb2'.mono (by have := HB3.out.size; simp at this ⊢; omega)))
                    clear hI2 hb2'
                    go_wp2_with fail
                    go_roundw
                    case rel => exact ⟨k + 1, m2, _, _, ys2, by omega, by go_num, rfl, by omega, HI2.out, HB2.out, by unfold Hid; rw [HR1.out, decide_eq_true hpos]; rfl⟩
                    case measure => simp [intOf]; omega
                  · have HR1 := Lib.hid (HNo2.out rfl)
                    clear HYes2 HNo2
                    go_wp2_with fail
                    go_roundw
                    case rel => exact ⟨k + 1, p, _, _, ys, by omega, by go_num, rfl, by omega, HI3.out, HB3.out, HR1.out⟩
                    case measure => simp [intOf]; omega
        · have HE : Hid (decide (0 < p) = R) := by unfold Hid; rw [hS.out, List.drop_of_length_le (by rw [Hlena.out]; omega)]; simp [blkR]
          go_wp2_with fail
          go_ret
          exact ⟨_, _, _, rfl, HE.out, by omega, HBw.out⟩
end Go.Proofs.YtiebcdajoddkpaaGreatDoor
