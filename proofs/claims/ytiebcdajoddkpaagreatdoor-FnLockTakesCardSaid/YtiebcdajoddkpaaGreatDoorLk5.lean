/-
  Locks: what l24Ok of the reference computes.
-/
import Derived.Test.YtiebcdajoddkpaaGreatDoorLk4
namespace Go.Proofs.YtiebcdajoddkpaaGreatDoor
open Go.RowKit

def hOk1 (d : ItD) : Bool := inB d.a 1 4 && (inB d.b 1 9 && thingB d.name d.subs)
def hOrd (p d : ItD) : Bool := decide (p.a < d.a) || (decide (p.a = d.a) && lessB p.name p.subs d.name d.subs)
def apP (d g : ItD) : Bool := decide (g.a ≠ d.a) && wayB g.name g.subs d.name d.subs
def heldAt (l : List ItD) (k : Nat) : Bool := hOk1 (l.getD k default) && (decide (k = 0) || hOrd (l.getD (k - 1) default) (l.getD k default)) && !((l.take k).any (apP (l.getD k default)))
def allFrom (p : Nat → Bool) : Nat → Nat → Bool
  | _, 0 => true
  | k, f + 1 => p k && allFrom p (k + 1) f
def askOkAt (l : List ItD) (k : Nat) : Bool := inB (l.getD k default).a 1 4 && (inB (l.getD k default).b 0 999999 && (thingB (l.getD k default).name (l.getD k default).subs && decide (askAt l (l.getD k default).a = (k : Int))))
def okB (held asks : List ItD) : Bool := decide (held.length ≤ 16) && decide (asks.length ≤ 4) && allFrom (heldAt held) 0 held.length && allFrom (askOkAt asks) 0 asks.length
theorem allFrom_step (p : Nat → Bool) (k n : Nat) (h : k < n) : allFrom p k (n - k) = (p k && allFrom p (k + 1) (n - (k + 1))) := by
  rw [show n - k = (n - (k + 1)) + 1 from by omega]; rfl
theorem allFrom_end (p : Nat → Bool) (k n : Nat) (h : ¬ k < n) : allFrom p k (n - k) = true := by
  rw [show n - k = 0 from by omega]; rfl
theorem take_getD (l : List ItD) (k j : Nat) (h : j < k) : (l.take k).getD j default = l.getD j default := by
  rw [List.getD_eq_getElem?_getD, List.getD_eq_getElem?_getD, List.getElem?_take, if_pos h]

set_option maxRecDepth 100000 in
set_option maxHeartbeats 8000000 in
theorem l24Ok_any (A A' : Option Addr) (n c n' c' : Nat) (held asks : List ItD) (w : World) (h : Its w w.heap.size A n held) (ha : Its w w.heap.size A' n' asks) (hs : smalls held) (hsa : smalls asks) :
    Calls Tryz.prog 42 #[.agg #[.slice A n c, .slice A' n' c']] w fun e w' => e = .returned (.bool (okB held asks)) ∧ Below w.heap.size w w' := by
  have Hh := Lib.hid h
  have Ha := Lib.hid ha
  have Hlen := Lib.hid h.1
  have Hlena := Lib.hid ha.1
  have hn : n ≤ 1048576 := by rw [← h.1]; exact hs.1
  have hn' : n' ≤ 1048576 := by rw [← ha.1]; exact hsa.1
  have Hs := Lib.hid hs
  have Hsa := Lib.hid hsa
  have HKA := Lib.hid (fun W (hW : Below w.heap.size w W) (job : Int) => l24Ask_any A A' n c n' c' asks job W (ha.later hW) hn')
  have hR : okB held asks = (decide (n ≤ 16) && decide (n' ≤ 4) && allFrom (heldAt held) 0 n && allFrom (askOkAt asks) 0 n') := by unfold okB; rw [h.1, ha.1]
  clear h ha hs hsa
  generalize okB held asks = R at *
  by_cases h16 : 16 < n
  · have HE : Hid (R = false) := by unfold Hid; rw [hR, decide_eq_false (by omega)]; rfl
    clear hR
    go_enter Tryz.func42, Tryz.ntmps42
    go_wp2_with fail
    go_ret
    exact ⟨ret_bool HE.out.symm, Below.new _ _⟩
  · by_cases h4 : 4 < n'
    · have HE : Hid (R = false) := by unfold Hid; rw [hR, decide_eq_false (show ¬ n' ≤ 4 by omega)]; simp
      clear hR
      go_enter Tryz.func42, Tryz.ntmps42
      go_wp2_with fail
      go_ret
      exact ⟨ret_bool HE.out.symm, Below.new _ _⟩
    · have HR : Hid (R = (allFrom (heldAt held) 0 (n - 0) && allFrom (askOkAt asks) 0 (n' - 0))) := by unfold Hid; rw [hR, decide_eq_true (show n ≤ 16 by omega), decide_eq_true (show n' ≤ 4 by omega)]; rfl
      clear hR
      go_enter Tryz.func42, Tryz.ntmps42
      go_wp2_with fail
      go_loopw [3] (fun i wr => ∃ (k : Nat), k ≤ n ∧ i = .int .i64 k ∧ Below (w.heap.size + 1) (w.alloc (.cells #[.slice A n c, .slice A' n' c'] 27)) wr ∧ Hid (allFrom (heldAt held) 0 (n - 0) = allFrom (heldAt held) k (n - k))) (fun i _ => n - (intOf i).toNat)
      case atStart => exact ⟨0, Nat.zero_le _, rfl, Below.refl _ _, rfl⟩
      case round =>
        obtain ⟨k, hk, rfl, hb, hS⟩ := hrel
        have p0 := (Blk.later (heap_alloc_new w _) hb (by omega)).cell
        have hz0 : w.heap.size < wr.heap.size := by have := hb.size; simp at this; omega
        have HB := Lib.hid hb
        have HBw := Lib.hid ((Below.new _ _).trans (hb.mono (by omega)))
        clear hb
        by_cases hlt : k < n
        · obtain ⟨bb, o, rfl, hbB, hc'⟩ := (Hh.out.later HBw.out).2 (by omega)
          obtain ⟨c0, c1, c2, c3, k0, k1, k2, k3, hr⟩ := hc' k hlt
          have HC := Lib.hid hc'
          clear hc'
          have hl1 : k < held.length := by rw [Hlen.out]; exact hlt
          have HS := Lib.hid (allFrom_step (heldAt held) k n hlt)
          have HA0 : Hid (heldAt held k = (hOk1 (held.getD k default) && (decide (k = 0) || hOrd (held.getD (k - 1) default) (held.getD k default)) && !((held.take k).any (apP (held.getD k default))))) := rfl
          have hsm := Hs.out.2 _ (getD_mem held k hl1)
          have HFalse : Hid (heldAt held k = false → R = false) := fun hf => by rw [HR.out, hS.out, HS.out, hf]; rfl
          have HTrue : Hid (heldAt held k = true → allFrom (heldAt held) 0 (n - 0) = allFrom (heldAt held) (k + 1) (n - (k + 1))) := fun hf => by rw [hS.out, HS.out, hf]; rfl
          clear hl1
          generalize held.getD k default = d at *
          obtain ⟨e0, e1, e2, A1, n1, cap1, e3, hs1, _⟩ := hr
          subst e0 e1 e2 e3
          have hn1 : n1 ≤ 1048576 := by rw [← hs1.1]; exact hsm.2.1
          have HS1 := Lib.hid hs1
          have HK3 := Lib.hid (fun W (hW : Below wr.heap.size wr W) => l24Thing_any d.name A1 n1 cap1 d.subs W hsm.1 (hs1.later hW) hn1 hsm.2.2)
          have HO1 : Hid (hOk1 d = (inB d.a 1 4 && (inB d.b 1 9 && thingB d.name d.subs))) := rfl
          have HK1 := Lib.hid (l24Job_any d.a)
          have HK2 := Lib.hid (l00In_any d.b 1 9)
          have HSM := Lib.hid hsm
          clear hs1 hsm
          generalize inB d.a 1 4 = x1 at *
          generalize inB d.b 1 9 = x2 at *
          generalize thingB d.name d.subs = x3 at *
          go_wp2_with fail
          refine (HK1.out _).mono ?_
          rintro e w1 ⟨rfl, rfl⟩
          cases x1
          · have HE : Hid (R = false) := HFalse.out (by rw [HA0.out, HO1.out]; rfl)
            go_wp2_with fail
            go_ret
            exact ⟨ret_bool HE.out.symm, HBw.out.later (Below.new _ _)⟩
          go_wp2_with fail
          refine (HK2.out _).mono ?_
          rintro e w1 ⟨rfl, rfl⟩
          cases x2
          · have HE : Hid (R = false) := HFalse.out (by rw [HA0.out, HO1.out]; rfl)
            go_wp2_with fail
            go_ret
            exact ⟨ret_bool HE.out.symm, HBw.out.later (Below.new _ _)⟩
          go_wp2_with fail
          refine (HK3.out _ (Below.new _ _)).mono ?_
          rintro e w1 ⟨rfl, rfl⟩
          cases x3
          · have HE : Hid (R = false) := HFalse.out (by rw [HA0.out, HO1.out]; rfl)
            go_wp2_with fail
            go_ret
            exact ⟨ret_bool HE.out.symm, HBw.out.later (Below.new _ _)⟩
          by_cases hk0 : k = 0
          · have HAt : Hid (heldAt held k = !((held.take k).any (apP d))) := by unfold Hid; rw [HA0.out, HO1.out, decide_eq_true hk0]; rfl
            have hd0 : decide ((0 : Int) < (k : Int)) = false := by simp; omega
            have hd0n : decide (0 < k) = false := by simp; omega
            clear hk0
            go_wp2_with fail
            go_quiet (fail)
            have HSt : Hid (∀ q, Below (wr.heap.size + 1) (wr.alloc (.cells #[.int .i64 d.a, .int .i64 d.b, .string d.name, .slice A1 n1 cap1] 37)) ((wr.alloc (.cells #[.int .i64 d.a, .int .i64 d.b, .string d.name, .slice A1 n1 cap1] 37)).drewN q)) := fun q => below_drewN (Below.refl _ _) q
            go_wp2_with fail
            obtain ⟨wo, hwo⟩ : ∃ wo : World, wo = wr := ⟨_, rfl⟩
            go_loopw [5] (fun i wq => ∃ (j : Nat), j ≤ k ∧ i = .int .i64 j ∧ Below (wr.heap.size + 1) (wr.alloc (.cells #[.int .i64 d.a, .int .i64 d.b, .string d.name, .slice A1 n1 cap1] 37)) wq ∧ Hid ((held.take k).any (apP d) = ((held.take k).drop j).any (apP d))) (fun i _ => k - (intOf i).toNat)
            case atStart => exact ⟨0, Nat.zero_le _, rfl, HSt.out _, rfl⟩
            case round =>
              subst hwo
              obtain ⟨j, hj, rfl, hbq, hSq⟩ := hrel
              have r0 := (Blk.later (heap_alloc_new wo _) hbq (by omega)).cell
              have zq : wo.heap.size < wr.heap.size := by have := hbq.size; simp at this; omega
              have HBq := Lib.hid hbq
              have HBo := Lib.hid ((Below.new wo _).trans (hbq.mono (by omega)))
              have HB2 := Lib.hid (HB.out.trans (HBo.out.mono (by omega)))
              have p2 := (Blk.later (heap_alloc_new w _) HB2.out (by omega)).cell
              have HBw2 := Lib.hid (HBw.out.later HBo.out)
              clear hbq
              by_cases hltq : j < k
              · obtain ⟨bg, og, eg, hbg, hcg⟩ := (Hh.out.later HBw2.out).2 (by omega)
                obtain ⟨g0, g1, g2, g3, m0, m1, m2, m3, hrg⟩ := hcg j (by omega)
                injection eg with eg
                injection eg with eg1 eg2
                subst eg1 eg2
                clear hcg
                have hl2 : j < (held.take k).length := by rw [List.length_take, Hlen.out]; omega
                have HSq := Lib.hid (any_step (apP d) (held.take k) j hl2)
                rw [take_getD held k j hltq] at HSq
                have hsg := Hs.out.2 _ (getD_mem held j (by rw [Hlen.out]; omega))
                clear hl2
                generalize held.getD j default = f at *
                obtain ⟨f0, f1, f2, A2, n2, cap2, f3, hs2, _⟩ := hrg
                subst f0 f1 f2 f3
                have hn2 : n2 ≤ 1048576 := by rw [← hs2.1]; exact hsg.2.1
                have HKW := Lib.hid (fun W (hW : Below wr.heap.size wr W) => l24Way_any f.name d.name A2 A1 n2 cap2 n1 cap1 f.subs d.subs W (hs2.later hW) ((HS1.out.later HBo.out).later hW) hn2 hn1)
                have HPf : Hid (apP d f = (decide (f.a ≠ d.a) && wayB f.name f.subs d.name d.subs)) := rfl
                clear hs2 hsg
                generalize wayB f.name f.subs d.name d.subs = y at *
                generalize f.a = fa at *
                by_cases hja : fa = d.a
                · have hb2 : (fa != d.a) = false := by simp [hja]
                  have HPf2 : Hid (apP d f = false) := by unfold Hid; rw [HPf.out]; simp [hja]
                  clear hja
                  go_wp2_with fail
                  go_roundw
                  case rel => exact ⟨j + 1, by omega, by go_num, HBq.out.alloc (by omega) _, by unfold Hid; rw [hSq.out, HSq.out, HPf2.out]; rfl⟩
                  case measure => simp [intOf]; omega
                · have hb2 : (fa != d.a) = true := by rw [bne_iff_ne]; exact hja
                  have HPf2 : Hid (apP d f = y) := by unfold Hid; rw [HPf.out]; simp [hja]
                  clear hja
                  go_wp2_with fail
                  refine (HKW.out _ (Below.new _ _)).mono ?_
                  rintro e w5 ⟨rfl, q5, rfl⟩
                  cases y
                  · go_wp2_with fail
                    go_roundw
                    case rel => first | exact ⟨j + 1, by omega, by go_num, below_drewN (HBq.out.alloc (by omega) _) _, by unfold Hid; rw [hSq.out, HSq.out, HPf2.out]; rfl⟩ | ((repeat apply Exists.intro); exact ⟨⟨j + 1, by omega, by go_num, below_drewN (HBq.out.alloc (by omega) _) _, by unfold Hid; rw [hSq.out, HSq.out, HPf2.out]; rfl⟩, rfl⟩)
                    case measure => simp [intOf]; omega
                  · have HE : Hid (R = false) := HFalse.out (by rw [HAt.out, hSq.out, HSq.out, HPf2.out]; simp)
                    go_wp2_with fail
                    go_ret
                    exact ⟨ret_bool HE.out.symm, below_drewN (HBw2.out.later (Below.new _ _)) _⟩
              · have HE : Hid (allFrom (heldAt held) 0 (n - 0) = allFrom (heldAt held) (k + 1) (n - (k + 1))) := HTrue.out (by rw [HAt.out, hSq.out, List.drop_of_length_le (by rw [List.length_take]; omega)]; rfl)
                go_wp2_with fail
                go_roundw
                case rel => exact ⟨k + 1, by omega, by go_num, HB2.out, HE.out⟩
                case measure => simp [intOf]; omega
          · obtain ⟨kp, hkp⟩ : ∃ kp, k = kp + 1 := ⟨k - 1, by omega⟩
            have i1 : (0 : Int) < (k : Int) := by omega
            have i1n : 0 < k := by omega
            have i1d : decide (0 < k) = true := by simp; omega
            have i2 : (k : Int) - 1 = (kp : Int) := by omega
            have hkb : (kp : Int) < n := by omega
            have hkpn : kp < n := by omega
            have HKP := Lib.hid hkp
            obtain ⟨t0, t1, t2, t3, l0, l1, l2, l3, hrp⟩ := HC.out kp (by omega)
            have hsp := Hs.out.2 _ (getD_mem held kp (by rw [Hlen.out]; omega))
            have hdk : decide (k = 0) = false := by simpa using hk0
            rw [show k - 1 = kp from by omega, hdk, Bool.false_or] at HA0
            generalize held.getD kp default = f at *
            obtain ⟨f0, f1, f2, A3, n3, cap3, f3, hs3, _⟩ := hrp
            subst f0 f1 f2 f3
            have hn3 : n3 ≤ 1048576 := by rw [← hs3.1]; exact hsp.2.1
            have HKL := Lib.hid (fun W (hW : Below wr.heap.size wr W) => l24Less_any f.name d.name A3 A1 n3 cap3 n1 cap1 f.subs d.subs W (hs3.later hW) (HS1.out.later hW) hn3 hn1 hsp.2.2 HSM.out.2.2)
            have HOr : Hid (hOrd f d = (decide (f.a < d.a) || (decide (f.a = d.a) && lessB f.name f.subs d.name d.subs))) := rfl
            clear hs3 hsp hk0 hdk hkp
            generalize lessB f.name f.subs d.name d.subs = y at *
            rcases Int.lt_trichotomy f.a d.a with hfa | hfa | hfa
            · have hg1 : decide (d.a < f.a) = false := by simp; omega
              have hg2 : (f.a == d.a) = false := by rw [beq_eq_false_iff_ne]; omega
              have HAt : Hid (heldAt held k = !((held.take k).any (apP d))) := by unfold Hid; rw [HA0.out, HO1.out, HOr.out, decide_eq_true hfa]; rfl
              have HSt : Hid (∀ q, Below (wr.heap.size + 1) (wr.alloc (.cells #[.int .i64 d.a, .int .i64 d.b, .string d.name, .slice A1 n1 cap1] 37)) ((wr.alloc (.cells #[.int .i64 d.a, .int .i64 d.b, .string d.name, .slice A1 n1 cap1] 37)).drewN q)) := fun q => below_drewN (Below.refl _ _) q
              go_wp2_with fail
              go_quiet (fail)
              go_wp2_with fail
              obtain ⟨wo, hwo⟩ : ∃ wo : World, wo = wr := ⟨_, rfl⟩
              go_loopw [5] (fun i wq => ∃ (j : Nat), j ≤ k ∧ i = .int .i64 j ∧ Below (wr.heap.size + 1) (wr.alloc (.cells #[.int .i64 d.a, .int .i64 d.b, .string d.name, .slice A1 n1 cap1] 37)) wq ∧ Hid ((held.take k).any (apP d) = ((held.take k).drop j).any (apP d))) (fun i _ => k - (intOf i).toNat)
              case atStart => exact ⟨0, Nat.zero_le _, rfl, HSt.out _, rfl⟩
              case round =>
                subst hwo
                obtain ⟨j, hj, rfl, hbq, hSq⟩ := hrel
                have r0 := (Blk.later (heap_alloc_new wo _) hbq (by omega)).cell
                have zq : wo.heap.size < wr.heap.size := by have := hbq.size; simp at this; omega
                have HBq := Lib.hid hbq
                have HBo := Lib.hid ((Below.new wo _).trans (hbq.mono (by omega)))
                have HB2 := Lib.hid (HB.out.trans (HBo.out.mono (by omega)))
                have p2 := (Blk.later (heap_alloc_new w _) HB2.out (by omega)).cell
                have HBw2 := Lib.hid (HBw.out.later HBo.out)
                clear hbq
                by_cases hltq : j < k
                · obtain ⟨bg, og, eg, hbg, hcg⟩ := (Hh.out.later HBw2.out).2 (by omega)
                  obtain ⟨g0, g1, g2, g3, m0, m1, m2, m3, hrg⟩ := hcg j (by omega)
                  injection eg with eg
                  injection eg with eg1 eg2
                  subst eg1 eg2
                  clear hcg
                  have hl2 : j < (held.take k).length := by rw [List.length_take, Hlen.out]; omega
                  have HSq := Lib.hid (any_step (apP d) (held.take k) j hl2)
                  rw [take_getD held k j hltq] at HSq
                  have hsg := Hs.out.2 _ (getD_mem held j (by rw [Hlen.out]; omega))
                  clear hl2
                  generalize held.getD j default = f at *
                  obtain ⟨f0, f1, f2, A2, n2, cap2, f3, hs2, _⟩ := hrg
                  subst f0 f1 f2 f3
                  have hn2 : n2 ≤ 1048576 := by rw [← hs2.1]; exact hsg.2.1
                  have HKW := Lib.hid (fun W (hW : Below wr.heap.size wr W) => l24Way_any f.name d.name A2 A1 n2 cap2 n1 cap1 f.subs d.subs W (hs2.later hW) ((HS1.out.later HBo.out).later hW) hn2 hn1)
                  have HPf : Hid (apP d f = (decide (f.a ≠ d.a) && wayB f.name f.subs d.name d.subs)) := rfl
                  clear hs2 hsg
                  generalize wayB f.name f.subs d.name d.subs = y at *
                  generalize f.a = fa at *
                  by_cases hja : fa = d.a
                  · have hb2 : (fa != d.a) = false := by simp [hja]
                    have HPf2 : Hid (apP d f = false) := by unfold Hid; rw [HPf.out]; simp [hja]
                    clear hja
                    go_wp2_with fail
                    go_roundw
                    case rel => exact ⟨j + 1, by omega, by go_num, HBq.out.alloc (by omega) _, by unfold Hid; rw [hSq.out, HSq.out, HPf2.out]; rfl⟩
                    case measure => simp [intOf]; omega
                  · have hb2 : (fa != d.a) = true := by rw [bne_iff_ne]; exact hja
                    have HPf2 : Hid (apP d f = y) := by unfold Hid; rw [HPf.out]; simp [hja]
                    clear hja
                    go_wp2_with fail
                    refine (HKW.out _ (Below.new _ _)).mono ?_
                    rintro e w5 ⟨rfl, q5, rfl⟩
                    cases y
                    · go_wp2_with fail
                      go_roundw
                      case rel => first | exact ⟨j + 1, by omega, by go_num, below_drewN (HBq.out.alloc (by omega) _) _, by unfold Hid; rw [hSq.out, HSq.out, HPf2.out]; rfl⟩ | ((repeat apply Exists.intro); exact ⟨⟨j + 1, by omega, by go_num, below_drewN (HBq.out.alloc (by omega) _) _, by unfold Hid; rw [hSq.out, HSq.out, HPf2.out]; rfl⟩, rfl⟩)
                      case measure => simp [intOf]; omega
                    · have HE : Hid (R = false) := HFalse.out (by rw [HAt.out, hSq.out, HSq.out, HPf2.out]; simp)
                      go_wp2_with fail
                      go_ret
                      exact ⟨ret_bool HE.out.symm, below_drewN (HBw2.out.later (Below.new _ _)) _⟩
                · have HE : Hid (allFrom (heldAt held) 0 (n - 0) = allFrom (heldAt held) (k + 1) (n - (k + 1))) := HTrue.out (by rw [HAt.out, hSq.out, List.drop_of_length_le (by rw [List.length_take]; omega)]; rfl)
                  go_wp2_with fail
                  go_roundw
                  case rel => exact ⟨k + 1, by omega, by go_num, HB2.out, HE.out⟩
                  case measure => simp [intOf]; omega
            · have hg1 : decide (d.a < f.a) = false := by simp; omega
              have hg2 : (f.a == d.a) = true := by rw [beq_iff_eq]; omega
              have HA1 : Hid (heldAt held k = (y && !((held.take k).any (apP d)))) := by unfold Hid; rw [HA0.out, HO1.out, HOr.out, decide_eq_false (by omega), decide_eq_true hfa]; cases y <;> rfl
              have hW := Below.new wr (.cells #[.int .i64 d.a, .int .i64 d.b, .string d.name, .slice A1 n1 cap1] 37)
              have r0 := (show Blk _ _ _ _ from heap_alloc_new wr (.cells #[.int .i64 d.a, .int .i64 d.b, .string d.name, .slice A1 n1 cap1] 37)).cell
              have q1 := cell_later hW (show wr.cell? ⟨w.heap.size, 0, none⟩ = some (.slice (some ⟨bb, o, none⟩) n c) from p0 0)
              have q2 := cell_later hW l0
              have q3 := cell_later hW l2
              have q4 := cell_later hW l3
              have q5 := r0 0
              have q6 := r0 2
              have q7 := r0 3
              have HWW := Lib.hid hW
              clear r0 hW l0 l1 l2 l3 k0 k1 k2 k3
              go_wp2_with fail
              have hw1 : IntKind.i64.wrap (kp : Int) = (kp : Int) := IntWalk.i64_in _ (by omega)
              have hw2 : (0 : Int) ≤ (kp : Int) := by omega
              have hw3 : ((kp : Int)).toNat = kp := by omega
              go_region_held3 (fun w' => w'.cell? ⟨w.heap.size, 0, none⟩ = some (.slice (some ⟨bb, o, none⟩) n c) ∧ w'.cell? ⟨bb, o + kp * 4, none⟩ = some (.int .i64 f.a) ∧ w'.cell? ⟨bb, o + kp * 4 + 2, none⟩ = some (.string f.name) ∧ w'.cell? ⟨bb, o + kp * 4 + 3, none⟩ = some (.slice A3 n3 cap3) ∧ w'.cell? ⟨wr.heap.size, 0, none⟩ = some (.int .i64 d.a) ∧ w'.cell? ⟨wr.heap.size, 2, none⟩ = some (.string d.name) ∧ w'.cell? ⟨wr.heap.size, 3, none⟩ = some (.slice A1 n1 cap1)) (first | exact ⟨q1, q2, q3, q4, q5, q6, q7⟩ | exact ⟨cell_later hb2 q1, cell_later hb2 q2, cell_later hb2 q3, cell_later hb2 q4, cell_later hb2 q5, cell_later hb2 q6, cell_later hb2 q7⟩)
                (first
                  | (go_at_call 92; refine (HKL.out _ (by exact HWW.out.drew)).mono ?_; rintro e w2 ⟨rfl, hb2'⟩; have hb2 := undrew hb2'; clear hb2'))
              have HBL := Lib.hid hb2
              clear hw1 hw2 hw3 q1 q2 q3 q4 q5 q6 q7 hb2
              cases y
              · have HE : Hid (R = false) := HFalse.out (by rw [HA1.out]; rfl)
                go_wp2_with fail
                go_ret
                exact ⟨ret_bool HE.out.symm, HBw.out.later (HWW.out.later HBL.out)⟩
              · have HAt : Hid (heldAt held k = !((held.take k).any (apP d))) := HA1.out
                have HSt : Hid (Below (wr.heap.size + 1) (wr.alloc (.cells #[.int .i64 d.a, .int .i64 d.b, .string d.name, .slice A1 n1 cap1] 37)) w2) := HBL.out.mono (by simp)
                go_wp2_with fail
                obtain ⟨wo, hwo⟩ : ∃ wo : World, wo = wr := ⟨_, rfl⟩
                go_loopw [5] (fun i wq => ∃ (j : Nat), j ≤ k ∧ i = .int .i64 j ∧ Below (wr.heap.size + 1) (wr.alloc (.cells #[.int .i64 d.a, .int .i64 d.b, .string d.name, .slice A1 n1 cap1] 37)) wq ∧ Hid ((held.take k).any (apP d) = ((held.take k).drop j).any (apP d))) (fun i _ => k - (intOf i).toNat)
                case atStart => exact ⟨0, Nat.zero_le _, rfl, HSt.out, rfl⟩
                case round =>
                  subst hwo
                  obtain ⟨j, hj, rfl, hbq, hSq⟩ := hrel
                  have r0 := (Blk.later (heap_alloc_new wo _) hbq (by omega)).cell
                  have zq : wo.heap.size < wr.heap.size := by have := hbq.size; simp at this; omega
                  have HBq := Lib.hid hbq
                  have HBo := Lib.hid ((Below.new wo _).trans (hbq.mono (by omega)))
                  have HB2 := Lib.hid (HB.out.trans (HBo.out.mono (by omega)))
                  have p2 := (Blk.later (heap_alloc_new w _) HB2.out (by omega)).cell
                  have HBw2 := Lib.hid (HBw.out.later HBo.out)
                  clear hbq
                  by_cases hltq : j < k
                  · obtain ⟨bg, og, eg, hbg, hcg⟩ := (Hh.out.later HBw2.out).2 (by omega)
                    obtain ⟨g0, g1, g2, g3, m0, m1, m2, m3, hrg⟩ := hcg j (by omega)
                    injection eg with eg
                    injection eg with eg1 eg2
                    subst eg1 eg2
                    clear hcg
                    have hl2 : j < (held.take k).length := by rw [List.length_take, Hlen.out]; omega
                    have HSq := Lib.hid (any_step (apP d) (held.take k) j hl2)
                    rw [take_getD held k j hltq] at HSq
                    have hsg := Hs.out.2 _ (getD_mem held j (by rw [Hlen.out]; omega))
                    clear hl2
                    generalize held.getD j default = f at *
                    obtain ⟨f0, f1, f2, A2, n2, cap2, f3, hs2, _⟩ := hrg
                    subst f0 f1 f2 f3
                    have hn2 : n2 ≤ 1048576 := by rw [← hs2.1]; exact hsg.2.1
                    have HKW := Lib.hid (fun W (hW : Below wr.heap.size wr W) => l24Way_any f.name d.name A2 A1 n2 cap2 n1 cap1 f.subs d.subs W (hs2.later hW) ((HS1.out.later HBo.out).later hW) hn2 hn1)
                    have HPf : Hid (apP d f = (decide (f.a ≠ d.a) && wayB f.name f.subs d.name d.subs)) := rfl
                    clear hs2 hsg
                    generalize wayB f.name f.subs d.name d.subs = y at *
                    generalize f.a = fa at *
                    by_cases hja : fa = d.a
                    · have hb2 : (fa != d.a) = false := by simp [hja]
                      have HPf2 : Hid (apP d f = false) := by unfold Hid; rw [HPf.out]; simp [hja]
                      clear hja
                      go_wp2_with fail
                      go_roundw
                      case rel => exact ⟨j + 1, by omega, by go_num, HBq.out.alloc (by omega) _, by unfold Hid; rw [hSq.out, HSq.out, HPf2.out]; rfl⟩
                      case measure => simp [intOf]; omega
                    · have hb2 : (fa != d.a) = true := by rw [bne_iff_ne]; exact hja
                      have HPf2 : Hid (apP d f = y) := by unfold Hid; rw [HPf.out]; simp [hja]
                      clear hja
                      go_wp2_with fail
                      refine (HKW.out _ (Below.new _ _)).mono ?_
                      rintro e w5 ⟨rfl, q5, rfl⟩
                      cases y
                      · go_wp2_with fail
                        go_roundw
                        case rel => first | exact ⟨j + 1, by omega, by go_num, below_drewN (HBq.out.alloc (by omega) _) _, by unfold Hid; rw [hSq.out, HSq.out, HPf2.out]; rfl⟩ | ((repeat apply Exists.intro); exact ⟨⟨j + 1, by omega, by go_num, below_drewN (HBq.out.alloc (by omega) _) _, by unfold Hid; rw [hSq.out, HSq.out, HPf2.out]; rfl⟩, rfl⟩)
                        case measure => simp [intOf]; omega
                      · have HE : Hid (R = false) := HFalse.out (by rw [HAt.out, hSq.out, HSq.out, HPf2.out]; simp)
                        go_wp2_with fail
                        go_ret
                        exact ⟨ret_bool HE.out.symm, below_drewN (HBw2.out.later (Below.new _ _)) _⟩
                  · have HE : Hid (allFrom (heldAt held) 0 (n - 0) = allFrom (heldAt held) (k + 1) (n - (k + 1))) := HTrue.out (by rw [HAt.out, hSq.out, List.drop_of_length_le (by rw [List.length_take]; omega)]; rfl)
                    go_wp2_with fail
                    go_roundw
                    case rel => exact ⟨k + 1, by omega, by go_num, HB2.out, HE.out⟩
                    case measure => simp [intOf]; omega
            · have hg1 : decide (d.a < f.a) = true := by simp; omega
              have HE : Hid (R = false) := HFalse.out (by rw [HA0.out, HO1.out, HOr.out, decide_eq_false (by omega), decide_eq_false (show ¬ f.a = d.a by omega)]; rfl)
              go_wp2_with fail
              go_quiet (fail)
              go_wp2_with fail
              go_ret
              exact ⟨ret_bool HE.out.symm, below_drewN (HBw.out.later (Below.new _ _)) _⟩
        · have HR2 : Hid (R = allFrom (askOkAt asks) 0 (n' - 0)) := by unfold Hid; rw [HR.out, hS.out, allFrom_end _ _ _ hlt]; rfl
          clear hS
          go_wp2_with fail
          go_loopw [7] (fun i wr => ∃ (k : Nat), k ≤ n' ∧ i = .int .i64 k ∧ Below (w.heap.size + 1) (w.alloc (.cells #[.slice A n c, .slice A' n' c'] 27)) wr ∧ Hid (R = allFrom (askOkAt asks) k (n' - k))) (fun i _ => n' - (intOf i).toNat)
          case atStart => exact ⟨0, Nat.zero_le _, rfl, HB.out, HR2.out⟩
          case round =>
            clear hlt hk p0 hz0 HB HBw
            obtain ⟨k, hk, rfl, hb, hS⟩ := hrel
            have p0 := (Blk.later (heap_alloc_new w _) hb (by omega)).cell
            have hz0 : w.heap.size < wr.heap.size := by have := hb.size; simp at this; omega
            have HB := Lib.hid hb
            have HBw := Lib.hid ((Below.new _ _).trans (hb.mono (by omega)))
            clear hb
            by_cases hlt : k < n'
            · obtain ⟨bb, o, rfl, hbB, hc'⟩ := (Ha.out.later HBw.out).2 (by omega)
              obtain ⟨c0, c1, c2, c3, k0, k1, k2, k3, hr⟩ := hc' k hlt
              clear hc'
              have hl1 : k < asks.length := by rw [Hlena.out]; exact hlt
              have HS := Lib.hid (allFrom_step (askOkAt asks) k n' hlt)
              have HA0 : Hid (askOkAt asks k = (inB (asks.getD k default).a 1 4 && (inB (asks.getD k default).b 0 999999 && (thingB (asks.getD k default).name (asks.getD k default).subs && decide (askAt asks (asks.getD k default).a = (k : Int)))))) := rfl
              have hsm := Hsa.out.2 _ (getD_mem asks k hl1)
              have HFalse : Hid (askOkAt asks k = false → R = false) := fun hf => by rw [hS.out, HS.out, hf]; rfl
              have HTrue : Hid (askOkAt asks k = true → R = allFrom (askOkAt asks) (k + 1) (n' - (k + 1))) := fun hf => by rw [hS.out, HS.out, hf]; rfl
              clear hl1
              generalize asks.getD k default = d at *
              obtain ⟨e0, e1, e2, A1, n1, cap1, e3, hs1, _⟩ := hr
              subst e0 e1 e2 e3
              have hn1 : n1 ≤ 1048576 := by rw [← hs1.1]; exact hsm.2.1
              have HK3 := Lib.hid (fun W (hW : Below wr.heap.size wr W) => l24Thing_any d.name A1 n1 cap1 d.subs W hsm.1 (hs1.later hW) hn1 hsm.2.2)
              have HK1 := Lib.hid (l24Job_any d.a)
              have HK2 := Lib.hid (l00In_any d.b 0 999999)
              have HK4 := Lib.hid (fun W (hW : Below wr.heap.size wr W) => HKA.out W (HBw.out.later hW) d.a)
              clear hs1 hsm HKA
              generalize inB d.a 1 4 = x1 at *
              generalize inB d.b 0 999999 = x2 at *
              generalize thingB d.name d.subs = x3 at *
              generalize askAt asks d.a = at0 at *
              go_wp2_with fail
              refine (HK1.out _).mono ?_
              rintro e w1 ⟨rfl, rfl⟩
              cases x1
              · have HE : Hid (R = false) := HFalse.out (by rw [HA0.out]; rfl)
                go_wp2_with fail
                go_ret
                exact ⟨ret_bool HE.out.symm, HBw.out.later (Below.new _ _)⟩
              go_wp2_with fail
              refine (HK2.out _).mono ?_
              rintro e w1 ⟨rfl, rfl⟩
              cases x2
              · have HE : Hid (R = false) := HFalse.out (by rw [HA0.out]; rfl)
                go_wp2_with fail
                go_ret
                exact ⟨ret_bool HE.out.symm, HBw.out.later (Below.new _ _)⟩
              go_wp2_with fail
              refine (HK3.out _ (Below.new _ _)).mono ?_
              rintro e w1 ⟨rfl, rfl⟩
              cases x3
              · have HE : Hid (R = false) := HFalse.out (by rw [HA0.out]; rfl)
                go_wp2_with fail
                go_ret
                exact ⟨ret_bool HE.out.symm, HBw.out.later (Below.new _ _)⟩
              go_wp2_with fail
              refine (HK4.out _ (Below.new _ _)).mono ?_
              rintro e w1 ⟨rfl, hb1⟩
              have HB1 := Lib.hid ((HB.out.alloc (by omega) _).trans (hb1.mono (by simp; omega)))
              have HBw1 := Lib.hid ((HBw.out.later (Below.new _ _)).later hb1)
              clear hb1
              by_cases hat : at0 = (k : Int)
              · have hb2 : (at0 != (k : Int)) = false := by simp [hat]
                have HE : Hid (R = allFrom (askOkAt asks) (k + 1) (n' - (k + 1))) := HTrue.out (by rw [HA0.out, decide_eq_true hat]; rfl)
                clear hat
                go_wp2_with fail
                go_roundw
                case rel => exact ⟨k + 1, by omega, by go_num, HB1.out, HE.out⟩
                case measure => simp [intOf]; omega
              · have hb2 : (at0 != (k : Int)) = true := by rw [bne_iff_ne]; exact hat
                have HE : Hid (R = false) := HFalse.out (by rw [HA0.out, decide_eq_false hat]; rfl)
                clear hat
                go_wp2_with fail
                go_ret
                exact ⟨ret_bool HE.out.symm, HBw1.out⟩
            · have HE : Hid (R = true) := by unfold Hid; rw [hS.out, allFrom_end _ _ _ hlt]
              go_wp2_with fail
              go_ret
              exact ⟨ret_bool HE.out.symm, HBw.out⟩
end Go.Proofs.YtiebcdajoddkpaaGreatDoor
