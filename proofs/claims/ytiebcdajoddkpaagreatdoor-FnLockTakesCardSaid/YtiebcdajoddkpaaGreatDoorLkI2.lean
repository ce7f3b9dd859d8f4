/-
  Locks of the program: what heldOk computes.
-/
import Derived.Test.YtiebcdajoddkpaaGreatDoorLkI1
namespace Go.Proofs.YtiebcdajoddkpaaGreatDoor
open Go.RowKit

theorem quiet_left {P : Program} {f : FuncId} {args : Array Value} {w : World} {n : Nat} {v : Value}
    (h : Calls P f args (w.drewN n) fun e w' => e = .returned v ∧ w.drewN n = w') : Calls P f args (w.drewN n) fun e w'' => e = .returned v ∧ ∃ m, w'' = w.drewN m :=
  h.mono fun _ _ ⟨he, hm⟩ => ⟨he, n, hm.symm⟩

def heldIAt (l : List ItD) (k : Nat) : Bool := hOk1 (l.getD k default) && (decide (k = 0) || decide (cmpIt (l.getD (k - 1) default) (l.getD k default) < 0)) && !((l.take k).any (apP (l.getD k default)))
def heldI (held : List ItD) : Bool := decide (held.length ≤ 16) && allFrom (heldIAt held) 0 held.length

set_option maxRecDepth 100000 in
set_option maxHeartbeats 8000000 in
theorem heldOk_any (A : Option Addr) (n c : Nat) (held : List ItD) (w : World) (htab : tabT w) (h : Its w w.heap.size A n held) (hs : smalls held) (hnc : n ≤ c) :
    Calls Tryz.prog 79 #[.slice A n c] w fun e w' => e = .returned (.bool (heldI held)) ∧ Below w.heap.size w w' := by
  have eg : ∀ args w, (callFunc 120 args).run Tryz.prog w = .ok (.enter 120 args) w := enters_of Tryz.func120 (by kernel_rfl) rfl
  have HEG := Lib.hid eg
  clear eg
  have Hh := Lib.hid h
  have Hlen := Lib.hid h.1
  have hn : n ≤ 1048576 := by rw [← h.1]; exact hs.1
  have Hs := Lib.hid hs
  have HT := Lib.hid htab
  have hR : heldI held = (decide (n ≤ 16) && allFrom (heldIAt held) 0 n) := by unfold heldI; rw [h.1]
  clear h hs htab
  generalize heldI held = R at *
  by_cases h16 : 16 < n
  · have HE : Hid (R = false) := by unfold Hid; rw [hR, decide_eq_false (by omega)]; rfl
    clear hR
    go_enter Tryz.func79, Tryz.ntmps79
    go_wp2_with fail
    go_ret
    exact ⟨ret_bool HE.out.symm, Below.refl _ _⟩
  · have HR : Hid (R = allFrom (heldIAt held) 0 (n - 0)) := by unfold Hid; rw [hR, decide_eq_true (show n ≤ 16 by omega)]; rfl
    clear hR
    go_enter Tryz.func79, Tryz.ntmps79
    go_wp2_with fail
    go_loopw [10] (fun i wr => ∃ (k : Nat), k ≤ n ∧ i = .int .i64 k ∧ Below w.heap.size w wr ∧ Hid (R = allFrom (heldIAt held) k (n - k))) (fun i _ => n - (intOf i).toNat)
    case atStart => exact ⟨0, Nat.zero_le _, rfl, Below.refl _ _, HR.out⟩
    case round =>
      obtain ⟨k, hk, rfl, hb, hS⟩ := hrel
      have HB := Lib.hid hb
      clear hb
      by_cases hlt : k < n
      · have HTk := Lib.hid ((Hh.out.later HB.out).take k (by omega))
        obtain ⟨bb, o, rfl, hbB, hc'⟩ := (Hh.out.later HB.out).2 (by omega)
        obtain ⟨c0, c1, c2, c3, k0, k1, k2, k3, hr⟩ := hc' k hlt
        have HC := Lib.hid hc'
        clear hc'
        have hl1 : k < held.length := by rw [Hlen.out]; exact hlt
        have HS := Lib.hid (allFrom_step (heldIAt held) k n hlt)
        have HA0 : Hid (heldIAt held k = (hOk1 (held.getD k default) && (decide (k = 0) || decide (cmpIt (held.getD (k - 1) default) (held.getD k default) < 0)) && !((held.take k).any (apP (held.getD k default))))) := rfl
        have hsm := Hs.out.2 _ (getD_mem held k hl1)
        have HFalse : Hid (heldIAt held k = false → R = false) := fun hf => by rw [hS.out, HS.out, hf]; rfl
        have HTrue : Hid (heldIAt held k = true → R = allFrom (heldIAt held) (k + 1) (n - (k + 1))) := fun hf => by rw [hS.out, HS.out, hf]; rfl
        clear hl1
        generalize held.getD k default = d at *
        have HBox := Lib.hid (BoxIt.new hr 37)
        have HItR := Lib.hid hr
        obtain ⟨e0, e1, e2, A1, n1, cap1, e3, hs1, hcp1⟩ := hr
        subst e0 e1 e2 e3
        have hn1 : n1 ≤ 1048576 := by rw [← hs1.1]; exact hsm.2.1
        have HK3 := Lib.hid (fun W (hW : Below wr.heap.size wr W) => locationOk_any d.name A1 n1 cap1 d.subs W hsm.1 (hs1.later hW) hn1 hsm.2.2)
        have HO1 : Hid (hOk1 d = (inB d.a 1 4 && (inB d.b 1 9 && thingB d.name d.subs))) := rfl
        have HK1 := Lib.hid (jobOk_any d.a)
        have HK2 := Lib.hid (within_any d.b 1 9)
        have HX2 : Hid ((decide (1 ≤ d.b) && decide (d.b ≤ 9)) = inB d.b 1 9) := rfl
        rw [HX2.out] at HK2
        have HSM := Lib.hid hsm
        have HN := Lib.hid (Below.new wr (.cells #[.int .i64 d.a, .int .i64 d.b, .string d.name, .slice A1 n1 cap1] 37))
        have HCF := Lib.hid (fun W (hW : Below (wr.heap.size + 1) (wr.alloc (.cells #[.int .i64 d.a, .int .i64 d.b, .string d.name, .slice A1 n1 cap1] 37)) W) =>
          ContainsFuncL_any 120 #[.pointer (some ⟨wr.heap.size, 0, none⟩)] (apP d) (some ⟨bb, o, none⟩) k c (held.take k) W (HTk.out.later (HN.out.trans (hW.mono (by omega)))) (by omega) HEG.out
            (fun f hf b0 b1 b2 b3 V hV hrf => heldOk1_any wr.heap.size b0 b1 b2 b3 d f V hrf (Hs.out.2 _ (List.mem_of_mem_take hf)) ((HBox.out.later (by simpa using hW)).later hV) HSM.out))
        clear hs1 hsm HX2
        generalize inB d.a 1 4 = x1 at *
        generalize inB d.b 1 9 = x2 at *
        generalize thingB d.name d.subs = x3 at *
        generalize hz : (held.take k).any (apP d) = z at *
        have HZ := Lib.hid hz
        clear hz
        cases x1
        · have HE : Hid (R = false) := HFalse.out (by rw [HA0.out, HO1.out]; rfl)
          go_wp2_with fail
          go_quiet ((go_at_call 38; exact quiet_left (HK1.out _)))
          go_wp2_with fail
          go_ret
          exact ⟨ret_bool HE.out.symm, below_drewN (HB.out.later HN.out) _⟩
        cases x2
        · have HE : Hid (R = false) := HFalse.out (by rw [HA0.out, HO1.out]; rfl)
          go_wp2_with fail
          go_quiet ((first | (go_at_call 38; exact quiet_left (HK1.out _)) | (go_at_call 47; exact quiet_left (HK2.out _))))
          go_wp2_with fail
          go_ret
          exact ⟨ret_bool HE.out.symm, below_drewN (HB.out.later HN.out) _⟩
        cases x3
        · have HE : Hid (R = false) := HFalse.out (by rw [HA0.out, HO1.out]; rfl)
          go_wp2_with fail
          go_quiet ((first | (go_at_call 38; exact quiet_left (HK1.out _)) | (go_at_call 47; exact quiet_left (HK2.out _)) | (go_at_call 78; exact quiet_left (HK3.out _ (by exact below_drewN HN.out _)))))
          go_wp2_with fail
          go_ret
          exact ⟨ret_bool HE.out.symm, below_drewN (HB.out.later HN.out) _⟩
        by_cases hk0 : k = 0
        · have HAt : Hid (heldIAt held k = !z) := by unfold Hid; rw [HA0.out, HO1.out, decide_eq_true hk0]; rfl
          have hd0 : decide ((0 : Int) < (k : Int)) = false := by simp; omega
          have hd0n : decide (0 < k) = false := by simp; omega
          clear hk0
          go_wp2_with fail
          go_quiet ((first | (go_at_call 38; exact quiet_left (HK1.out _)) | (go_at_call 47; exact quiet_left (HK2.out _)) | (go_at_call 78; exact quiet_left (HK3.out _ (by exact below_drewN HN.out _)))))
          go_wp2_with fail
          refine (HCF.out _ (by exact below_drewN (Below.refl _ _) _)).mono ?_
          rintro e w1 ⟨rfl, hb1⟩
          have HB1 := Lib.hid ((below_drewN (HB.out.later HN.out) _).later hb1)
          clear hb1
          cases z
          · have HE := Lib.hid (HTrue.out HAt.out)
            go_wp2_with fail
            go_roundw
            case rel => exact ⟨k + 1, by omega, by go_num, HB1.out, HE.out⟩
            case measure => simp [intOf]; omega
          · have HE := Lib.hid (HFalse.out HAt.out)
            go_wp2_with fail
            go_ret
            exact ⟨ret_bool HE.out.symm, HB1.out⟩
        · obtain ⟨kp, hkp⟩ : ∃ kp, k = kp + 1 := ⟨k - 1, by omega⟩
          have i1 : (0 : Int) < (k : Int) := by omega
          have i1n : 0 < k := by omega
          have i1d : decide (0 < k) = true := by simp; omega
          have i2 : (k : Int) - 1 = (kp : Int) := by omega
          have hkb : (kp : Int) < n := by omega
          have hkpn : kp < n := by omega
          obtain ⟨t0, t1, t2, t3, l0, l1, l2, l3, hrp⟩ := HC.out kp (by omega)
          have hsp := Hs.out.2 _ (getD_mem held kp (by rw [Hlen.out]; omega))
          have hdk : decide (k = 0) = false := by simpa using hk0
          rw [show k - 1 = kp from by omega, hdk, Bool.false_or] at HA0
          generalize held.getD kp default = f at *
          have HKC := Lib.hid (fun W (hW : Below wr.heap.size wr W) => compareLocks_any t0 t1 t2 t3 _ _ _ _ f d W (tab_later HT.out (HB.out.later hW)) (hrp.later hW) (HItR.out.later hW) hsp HSM.out)
          obtain ⟨f0, f1, f2, A3, n3, cap3, f3, hs3, _⟩ := hrp
          subst f0 f1 f2 f3
          have HAy : Hid (heldIAt held k = (decide (cmpIt f d < 0) && !z)) := by unfold Hid; rw [HA0.out, HO1.out]; rfl
          clear hs3 hsp hk0 hdk hkp
          generalize cmpIt f d = y at *
          have hW := HN.out
          have r0 := (show Blk _ _ _ _ from heap_alloc_new wr (.cells #[.int .i64 d.a, .int .i64 d.b, .string d.name, .slice A1 n1 cap1] 37)).cell
          have q0 := cell_later hW l0
          have q1 := cell_later hW l1
          have q2 := cell_later hW l2
          have q3 := cell_later hW l3
          have q4 := r0 0
          have q5 := r0 1
          have q6 := r0 2
          have q7 := r0 3
          clear r0 hW l0 l1 l2 l3
          go_wp2_with fail
          have hw1 : IntKind.i64.wrap (kp : Int) = (kp : Int) := IntWalk.i64_in _ (by omega)
          have hw2 : (0 : Int) ≤ (kp : Int) := by omega
          have hw3 : ((kp : Int)).toNat = kp := by omega
          go_region_held3 (fun w' => w'.cell? ⟨bb, o + kp * 4, none⟩ = some (.int .i64 f.a) ∧ w'.cell? ⟨bb, o + kp * 4 + 1, none⟩ = some (.int .i64 f.b) ∧ w'.cell? ⟨bb, o + kp * 4 + 2, none⟩ = some (.string f.name) ∧ w'.cell? ⟨bb, o + kp * 4 + 3, none⟩ = some (.slice A3 n3 cap3) ∧ w'.cell? ⟨wr.heap.size, 0, none⟩ = some (.int .i64 d.a) ∧ w'.cell? ⟨wr.heap.size, 1, none⟩ = some (.int .i64 d.b) ∧ w'.cell? ⟨wr.heap.size, 2, none⟩ = some (.string d.name) ∧ w'.cell? ⟨wr.heap.size, 3, none⟩ = some (.slice A1 n1 cap1)) (first | exact ⟨q0, q1, q2, q3, q4, q5, q6, q7⟩ | exact ⟨cell_later hb2 q0, cell_later hb2 q1, cell_later hb2 q2, cell_later hb2 q3, cell_later hb2 q4, cell_later hb2 q5, cell_later hb2 q6, cell_later hb2 q7⟩)
            (first
              | (go_at_call 38; refine (HK1.out _).mono ?_; rintro e w1 ⟨rfl, rfl⟩)
              | (go_at_call 47; refine (HK2.out _).mono ?_; rintro e w1 ⟨rfl, rfl⟩)
              | (go_at_call 78; refine (HK3.out _ (by exact HN.out.drew)).mono ?_; rintro e w1 ⟨rfl, rfl⟩)
              | (go_at_call 105; refine (HKC.out _ (by exact HN.out.drew)).mono ?_; rintro e w2 ⟨rfl, hb2'⟩; have hb2 := undrew hb2'; clear hb2'))
          have HBL := Lib.hid hb2
          clear hw1 hw2 hw3 q0 q1 q2 q3 q4 q5 q6 q7 hb2
          by_cases hy : y < 0
          · have HAt : Hid (heldIAt held k = !z) := by unfold Hid; rw [HAy.out, decide_eq_true hy]; rfl
            go_wp2_with fail
            refine (HCF.out _ (by exact HBL.out.mono (by simp))).mono ?_
            rintro e w1 ⟨rfl, hb1⟩
            have HB1 := Lib.hid ((HB.out.later (HN.out.later HBL.out)).later hb1)
            clear hb1
            cases z
            · have HE := Lib.hid (HTrue.out HAt.out)
              go_wp2_with fail
              go_roundw
              case rel => exact ⟨k + 1, by omega, by go_num, HB1.out, HE.out⟩
              case measure => simp [intOf]; omega
            · have HE := Lib.hid (HFalse.out HAt.out)
              go_wp2_with fail
              go_ret
              exact ⟨ret_bool HE.out.symm, HB1.out⟩
          · have HE : Hid (R = false) := HFalse.out (by rw [HAy.out, decide_eq_false hy]; rfl)
            go_wp2_with fail
            go_ret
            exact ⟨ret_bool HE.out.symm, HB.out.later (HN.out.later HBL.out)⟩
      · have HE : Hid (R = true) := by unfold Hid; rw [hS.out, allFrom_end _ _ _ hlt]
        go_wp2_with fail
        go_ret
        exact ⟨ret_bool HE.out.symm, HB.out⟩
end Go.Proofs.YtiebcdajoddkpaaGreatDoor
