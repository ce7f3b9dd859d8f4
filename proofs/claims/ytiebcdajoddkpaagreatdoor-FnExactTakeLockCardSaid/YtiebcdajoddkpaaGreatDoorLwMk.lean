/-
  What markLockS, markAskS and markLocks write, and that heldLockS, heldAskS and heldLocks find it. (Printed by gen_lwmk.py.)
-/
import Derived.Test.YtiebcdajoddkpaaGreatDoorLwR
import Derived.Deep.RegionHeld3
namespace Go.Proofs.YtiebcdajoddkpaaGreatDoor
open Go.RowKit

/-- An item with marks from k on. -/
def mkIt (d : ItD) (k : Nat) : ItD := ⟨k, (k : Int) + 1, markT (k + 2), marks d.subs.length (k + 3)⟩
/-- The mark's number ahead of item j. -/
def mkAt (fs : List ItD) (k : Nat) : Nat → Nat
  | 0 => k
  | j + 1 => mkAt fs k j + 3 + (fs.getD j default).subs.length
/-- The items, j of them marked. -/
def mkIts (fs : List ItD) (k : Nat) : Nat → List ItD
  | 0 => fs
  | j + 1 => (mkIts fs k j).set j (mkIt (fs.getD j default) (mkAt fs k j))
theorem mkIts_len (fs : List ItD) (k : Nat) : ∀ j, (mkIts fs k j).length = fs.length
  | 0 => rfl
  | j + 1 => by rw [mkIts, List.length_set, mkIts_len fs k j]
theorem mkIts_rest (fs : List ItD) (k : Nat) : ∀ j i, j ≤ i → (mkIts fs k j).getD i default = fs.getD i default
  | 0, _, _ => rfl
  | j + 1, i, h => by
    rw [mkIts, List.getD_eq_getElem?_getD, List.getElem?_set_ne (by omega), ← List.getD_eq_getElem?_getD]
    exact mkIts_rest fs k j i (by omega)
theorem mkIts_at (fs : List ItD) (k : Nat) : ∀ j i, i < j → j ≤ fs.length → (mkIts fs k j).getD i default = mkIt (fs.getD i default) (mkAt fs k i)
  | 0, _, h, _ => absurd h (by omega)
  | j + 1, i, h, hl => by
    rw [mkIts, getD_set_ _ _ _ _ _ (by rw [mkIts_len]; omega)]
    by_cases e : j = i
    · subst e; rw [if_pos rfl]
    · rw [if_neg e]; exact mkIts_at fs k j i (by omega) (by omega)
theorem mkAt_le (fs : List ItD) (k : Nat) (h : smalls fs) : ∀ j, j ≤ fs.length → mkAt fs k j ≤ k + j * 1048579
  | 0, _ => by simp [mkAt]
  | j + 1, hj => by
    have ih := mkAt_le fs k h j (by omega)
    have hs := (h.2 _ (getD_mem fs j (by omega))).2.1
    rw [mkAt]
    omega
def MkPost (base : Nat) (P : Nat → Prop) (t : TypeId) (v : Value) (fs : List ItD) (vs : List Value) (k : Nat) (w : World) (e : Ending) (w' : World) : Prop :=
  e = .returned (.int .i64 (mkAt fs k fs.length : Nat)) ∧ OwnIts w' base t v (mkIts fs k fs.length) vs ∧ Chg P w w'

set_option maxRecDepth 100000 in
set_option maxHeartbeats 1000000 in
theorem markLockS_any (base k : Nat) (P : Nat → Prop) (v : Value) (fs : List ItD) (vs : List Value) (w : World) (h : OwnIts w base 37 v fs vs) (hs : smalls fs) (hk : k ≤ 2199023255552) (hu : inP P v) (hus : ∀ u ∈ vs, inP P u) :
    Calls Tryz.prog 71 #[v, .int .i64 k] w (MkPost base P 37 v fs vs k w) := by
  obtain ⟨A, cap, rfl, _, _, hA⟩ := own_slice h.row
  have HO := Lib.hid h
  have HS := Lib.hid hs
  have HVL := Lib.hid h.len
  have hn := hs.1
  have HU := Lib.hid hu
  have HUS := Lib.hid hus
  have HLE := Lib.hid (fun j hj => mkAt_le fs k hs j hj)
  clear h hs hu hus
  generalize hN : fs.length = n at *
  have HN := Lib.hid hN
  clear hN
  go_enter Tryz.func71, Tryz.ntmps71
  go_wp2_with fail
  go_loopw [1, 5] (fun q i wr => ∃ (j m : Nat), j ≤ n ∧ i = .int .i64 j ∧ q = .int .i64 (m : Nat) ∧ Hid (m = mkAt fs k j) ∧ OwnIts wr base 37 (.slice A n cap) (mkIts fs k j) vs ∧ Chg P w wr) (fun _ i _ => n - (intOf i).toNat)
  case atStart => exact ⟨0, k, Nat.zero_le _, rfl, rfl, rfl, HO.out, Chg.refl _ _⟩
  case round =>
    obtain ⟨j, m, hj, rfl, rfl, hm, hO, hR⟩ := hrel
    have HO1 := Lib.hid hO
    have HR := Lib.hid hR
    clear hO hR
    by_cases hlt : j < n
    · obtain ⟨g, rfl, hgl, hgb⟩ := hA (by omega)
      have HPG : Hid (P g) := HU.out g rfl
      have hmle : m ≤ 4398046511104 - 10 := by
        have h1 := HLE.out j (by omega)
        rw [hm.out]
        omega
      have hlk : (mkIts fs k j).length = n := by rw [mkIts_len, HN.out]
      have HLK := Lib.hid hlk
      have hrow := HO1.out.row
      rw [hlk] at hrow
      obtain ⟨cur, hblk⟩ := own_blk hrow
      have HD := Lib.hid (mkIts_rest fs k j j (Nat.le_refl _))
      have hvl2 : vs.length = (mkIts fs k j).length := HO1.out.len
      have x0 := own_cell hrow (j * 4) _ (by omega) ((flat_at _ vs j 0 hvl2 (by rw [hlk]; exact hlt) (by omega)).trans rfl)
      have x1 := own_cell hrow (j * 4 + 1) _ (by omega) ((flat_at _ vs j 1 hvl2 (by rw [hlk]; exact hlt) (by omega)).trans rfl)
      have y0 := hblk.frozen (j * 4)
      have y1 := hblk.frozen (j * 4 + 1)
      have z0 := hblk.lt
      have HT := Lib.hid (fun W => markText_any (m + 2) W (by omega))
      have hsm := (HS.out.2 _ (getD_mem fs j (by rw [HN.out]; exact hlt))).2.1
      have HE : Hid (mkAt fs k (j + 1) = m + 3 + (fs.getD j default).subs.length) := by unfold Hid; rw [mkAt, ← hm.out]
      have HI : Hid (mkIts fs k (j + 1) = (mkIts fs k j).set j (mkIt (fs.getD j default) m)) := by unfold Hid; rw [mkIts, ← hm.out]
      rw [HD.out] at x0 x1
      clear hlk hrow hblk hvl2
      generalize fs.getD j default = d at *
      generalize mkIts fs k j = cu at *
      have HO2 : Hid (OwnIts ((wr.setCell ⟨g, j * 4, none⟩ (.int .i64 m)).setCell ⟨g, j * 4 + 1, none⟩ (.int .i64 (m + 1 : Nat))) base 37 (.slice (some ⟨g, 0, none⟩) n cap) ((cu.set j { d with a := m }).set j { d with a := m, b := (m + 1 : Nat) }) vs) := by
        have h1 := HO1.out.put HLK.out (i := j) (c := 0) (q := j * 4) (u := .int .i64 m) (d := d) (d' := { d with a := m }) hlt (by omega) (by omega) HD.out (fun v => rfl) rfl (by decide)
        exact h1.put (by rw [List.length_set]; exact HLK.out) (c := 1) (q := j * 4 + 1) (u := .int .i64 (m + 1 : Nat)) (d := { d with a := m }) (d' := { d with a := m, b := (m + 1 : Nat) }) hlt (by omega) rfl (by rw [getD_set_ _ _ _ _ _ (by rw [HLK.out]; exact hlt), if_pos rfl]) (fun v => rfl) rfl (by decide)
      have HR2 := Lib.hid ((HR.out.set HPG.out (j * 4) (.int .i64 m)).set HPG.out (j * 4 + 1) (.int .i64 (m + 1 : Nat)))
      rw [show ((m + 1 : Nat) : Int) = (m : Int) + 1 from by omega] at HO2 HR2
      go_wp2_with fail
      rw [show ((m : Int) + 1 + 1) = ((m + 2 : Nat) : Int) from by omega]
      refine (HT.out _).mono ?_
      rintro e w1 ⟨rfl, hb1⟩
      have hlk2 : ((cu.set j { d with a := m }).set j { d with a := m, b := (m : Int) + 1 }).length = n := by rw [List.length_set, List.length_set]; exact HLK.out
      have HO3 := Lib.hid (HO2.out.later hb1)
      have HR3 := Lib.hid (HR2.out.trans (Chg.of_below hb1))
      have hrow := HO3.out.row
      rw [hlk2] at hrow
      obtain ⟨cur, hblk⟩ := own_blk hrow
      have hlj : j < cu.length := by rw [HLK.out]; exact hlt
      have hgd : ((cu.set j { d with a := m }).set j { d with a := m, b := (m : Int) + 1 }).getD j default = { d with a := m, b := (m : Int) + 1 } := by rw [getD_set_ _ _ _ _ _ (by rw [List.length_set]; exact hlj), if_pos rfl]
      clear x0 x1 y0 y1 z0
      have x2 := own_cell hrow (j * 4 + 2) _ (by omega) ((flat_at _ vs j 2 HO3.out.len (by rw [hlk2]; exact hlt) (by omega)).trans rfl)
      have x3 := own_cell hrow (j * 4 + 3) _ (by omega) ((flat_at _ vs j 3 HO3.out.len (by rw [hlk2]; exact hlt) (by omega)).trans rfl)
      rw [hgd] at x2
      have y2 := hblk.frozen (j * 4 + 2)
      have z0 := hblk.lt
      have HSB := Lib.hid (HO3.out.subs j (by rw [hlk2]; exact hlt))
      rw [hgd] at HSB
      obtain ⟨A3, cap3, e3, _⟩ := own_slice HSB.out
      rw [e3] at x3
      have HE3 := Lib.hid e3
      have HV3 : Hid (inP P (vs.getD j (.slice none 0 0))) := HUS.out _ (mem_of_getD _ _ _ (by rw [HVL.out]; exact hlt))
      have HO4 := Lib.hid (HO3.out.put hlk2 (i := j) (c := 2) (q := j * 4 + 2) (u := .string (markT (m + 2))) (d := { d with a := m, b := (m : Int) + 1 }) (d' := { d with a := m, b := (m : Int) + 1, name := markT (m + 2) }) hlt (by omega) rfl hgd (fun v => rfl) rfl (by decide))
      have HR4 := Lib.hid (HR3.out.set HPG.out (j * 4 + 2) (.string (markT (m + 2))))
      have HLJ := Lib.hid hlj
      have hsl : ({ d with a := m, b := (m : Int) + 1 } : ItD).subs.length = d.subs.length := rfl
      clear hrow hblk hb1 e3 hgd hlk2 hlj
      have HS4 : Hid (SubO (w1.setCell ⟨g, j * 4 + 2, none⟩ (.string (markT (m + 2)))) base (vs.getD j (.slice none 0 0)) d.subs) := by
        have hx := HO4.out.subs j (by rw [List.length_set, List.length_set, List.length_set]; exact HLJ.out)
        rw [getD_set_ _ _ _ _ _ (by rw [List.length_set, List.length_set]; exact HLJ.out), if_pos rfl] at hx
        exact hx
      have HK := Lib.hid (markStringS_own base (m + 3) _ d.subs _ HS4.out hsm (by omega))
      rw [HE3.out] at HK
      have HX : Hid (∀ w2, SubO w2 base (vs.getD j (.slice none 0 0)) (marks d.subs.length (m + 3)) → World.grownBy (w1.setCell ⟨g, j * 4 + 2, none⟩ (.string (markT (m + 2)))) w2 (vs.getD j (.slice none 0 0)).ownBlock → OwnIts w2 base 37 (.slice (some ⟨g, 0, none⟩) n cap) (cu.set j (mkIt d m)) vs) := fun w2 hs2 hg2 => by
        have hx := HO4.out.mark (w' := w2) (i := j) (ss := marks d.subs.length (m + 3)) (by rw [List.length_set, List.length_set, List.length_set]; exact HLJ.out) hs2 hg2 (by decide)
        rw [getD_set_ _ _ _ _ _ (by rw [List.length_set, List.length_set]; exact HLJ.out), if_pos rfl, List.set_set, List.set_set, List.set_set] at hx
        exact hx
      rw [HE3.out] at HX HV3
      have HRX := Lib.hid (fun w2 (hg2 : World.grownBy _ w2 _) => HR4.out.trans (Chg.of_grown hg2 HV3.out))
      generalize markT (m + 2) = mt at *
      clear hsl HE3 HO4 HR4 HS4 HO3 HR3 HO2 HR2 HO1 HR HSB
      go_wp2_with fail
      rw [show ((m : Int) + 2 + 1) = ((m + 3 : Nat) : Int) from by omega]
      refine (HK.out).mono ?_
      rintro e w2 ⟨rfl, hsub2, hg2⟩
      have HON := Lib.hid (HX.out _ hsub2 hg2)
      have HRN := Lib.hid (HRX.out _ hg2)
      clear hsub2 hg2
      go_wp2_with fail
      go_roundw
      case rel => exact ⟨j + 1, m + 3 + d.subs.length, by omega, by go_num, by go_num, HE.out.symm, by rw [HI.out]; exact HON.out, HRN.out⟩
      case measure => simp [intOf]; omega
    · obtain rfl : j = n := by omega
      go_wp2_with fail
      go_ret
      exact ⟨by rw [HN.out, ← hm.out]; rfl, by rw [HN.out]; exact HO1.out, HR.out⟩

set_option maxRecDepth 100000 in
set_option maxHeartbeats 1000000 in
theorem markAskS_any (base k : Nat) (P : Nat → Prop) (v : Value) (fs : List ItD) (vs : List Value) (w : World) (h : OwnIts w base 42 v fs vs) (hs : smalls fs) (hk : k ≤ 2199023255552) (hu : inP P v) (hus : ∀ u ∈ vs, inP P u) :
    Calls Tryz.prog 72 #[v, .int .i64 k] w (MkPost base P 42 v fs vs k w) := by
  obtain ⟨A, cap, rfl, _, _, hA⟩ := own_slice h.row
  have HO := Lib.hid h
  have HS := Lib.hid hs
  have HVL := Lib.hid h.len
  have hn := hs.1
  have HU := Lib.hid hu
  have HUS := Lib.hid hus
  have HLE := Lib.hid (fun j hj => mkAt_le fs k hs j hj)
  clear h hs hu hus
  generalize hN : fs.length = n at *
  have HN := Lib.hid hN
  clear hN
  go_enter Tryz.func72, Tryz.ntmps72
  go_wp2_with fail
  go_loopw [1, 5] (fun q i wr => ∃ (j m : Nat), j ≤ n ∧ i = .int .i64 j ∧ q = .int .i64 (m : Nat) ∧ Hid (m = mkAt fs k j) ∧ OwnIts wr base 42 (.slice A n cap) (mkIts fs k j) vs ∧ Chg P w wr) (fun _ i _ => n - (intOf i).toNat)
  case atStart => exact ⟨0, k, Nat.zero_le _, rfl, rfl, rfl, HO.out, Chg.refl _ _⟩
  case round =>
    obtain ⟨j, m, hj, rfl, rfl, hm, hO, hR⟩ := hrel
    have HO1 := Lib.hid hO
    have HR := Lib.hid hR
    clear hO hR
    by_cases hlt : j < n
    · obtain ⟨g, rfl, hgl, hgb⟩ := hA (by omega)
      have HPG : Hid (P g) := HU.out g rfl
      have hmle : m ≤ 4398046511104 - 10 := by
        have h1 := HLE.out j (by omega)
        rw [hm.out]
        omega
      have hlk : (mkIts fs k j).length = n := by rw [mkIts_len, HN.out]
      have HLK := Lib.hid hlk
      have hrow := HO1.out.row
      rw [hlk] at hrow
      obtain ⟨cur, hblk⟩ := own_blk hrow
      have HD := Lib.hid (mkIts_rest fs k j j (Nat.le_refl _))
      have hvl2 : vs.length = (mkIts fs k j).length := HO1.out.len
      have x0 := own_cell hrow (j * 4) _ (by omega) ((flat_at _ vs j 0 hvl2 (by rw [hlk]; exact hlt) (by omega)).trans rfl)
      have x1 := own_cell hrow (j * 4 + 1) _ (by omega) ((flat_at _ vs j 1 hvl2 (by rw [hlk]; exact hlt) (by omega)).trans rfl)
      have y0 := hblk.frozen (j * 4)
      have y1 := hblk.frozen (j * 4 + 1)
      have z0 := hblk.lt
      have HT := Lib.hid (fun W => markText_any (m + 2) W (by omega))
      have hsm := (HS.out.2 _ (getD_mem fs j (by rw [HN.out]; exact hlt))).2.1
      have HE : Hid (mkAt fs k (j + 1) = m + 3 + (fs.getD j default).subs.length) := by unfold Hid; rw [mkAt, ← hm.out]
      have HI : Hid (mkIts fs k (j + 1) = (mkIts fs k j).set j (mkIt (fs.getD j default) m)) := by unfold Hid; rw [mkIts, ← hm.out]
      rw [HD.out] at x0 x1
      clear hlk hrow hblk hvl2
      generalize fs.getD j default = d at *
      generalize mkIts fs k j = cu at *
      have HO2 : Hid (OwnIts ((wr.setCell ⟨g, j * 4, none⟩ (.int .i64 m)).setCell ⟨g, j * 4 + 1, none⟩ (.int .i64 (m + 1 : Nat))) base 42 (.slice (some ⟨g, 0, none⟩) n cap) ((cu.set j { d with a := m }).set j { d with a := m, b := (m + 1 : Nat) }) vs) := by
        have h1 := HO1.out.put HLK.out (i := j) (c := 0) (q := j * 4) (u := .int .i64 m) (d := d) (d' := { d with a := m }) hlt (by omega) (by omega) HD.out (fun v => rfl) rfl (by decide)
        exact h1.put (by rw [List.length_set]; exact HLK.out) (c := 1) (q := j * 4 + 1) (u := .int .i64 (m + 1 : Nat)) (d := { d with a := m }) (d' := { d with a := m, b := (m + 1 : Nat) }) hlt (by omega) rfl (by rw [getD_set_ _ _ _ _ _ (by rw [HLK.out]; exact hlt), if_pos rfl]) (fun v => rfl) rfl (by decide)
      have HR2 := Lib.hid ((HR.out.set HPG.out (j * 4) (.int .i64 m)).set HPG.out (j * 4 + 1) (.int .i64 (m + 1 : Nat)))
      rw [show ((m + 1 : Nat) : Int) = (m : Int) + 1 from by omega] at HO2 HR2
      go_wp2_with fail
      rw [show ((m : Int) + 1 + 1) = ((m + 2 : Nat) : Int) from by omega]
      refine (HT.out _).mono ?_
      rintro e w1 ⟨rfl, hb1⟩
      have hlk2 : ((cu.set j { d with a := m }).set j { d with a := m, b := (m : Int) + 1 }).length = n := by rw [List.length_set, List.length_set]; exact HLK.out
      have HO3 := Lib.hid (HO2.out.later hb1)
      have HR3 := Lib.hid (HR2.out.trans (Chg.of_below hb1))
      have hrow := HO3.out.row
      rw [hlk2] at hrow
      obtain ⟨cur, hblk⟩ := own_blk hrow
      have hlj : j < cu.length := by rw [HLK.out]; exact hlt
      have hgd : ((cu.set j { d with a := m }).set j { d with a := m, b := (m : Int) + 1 }).getD j default = { d with a := m, b := (m : Int) + 1 } := by rw [getD_set_ _ _ _ _ _ (by rw [List.length_set]; exact hlj), if_pos rfl]
      clear x0 x1 y0 y1 z0
      have x2 := own_cell hrow (j * 4 + 2) _ (by omega) ((flat_at _ vs j 2 HO3.out.len (by rw [hlk2]; exact hlt) (by omega)).trans rfl)
      have x3 := own_cell hrow (j * 4 + 3) _ (by omega) ((flat_at _ vs j 3 HO3.out.len (by rw [hlk2]; exact hlt) (by omega)).trans rfl)
      rw [hgd] at x2
      have y2 := hblk.frozen (j * 4 + 2)
      have z0 := hblk.lt
      have HSB := Lib.hid (HO3.out.subs j (by rw [hlk2]; exact hlt))
      rw [hgd] at HSB
      obtain ⟨A3, cap3, e3, _⟩ := own_slice HSB.out
      rw [e3] at x3
      have HE3 := Lib.hid e3
      have HV3 : Hid (inP P (vs.getD j (.slice none 0 0))) := HUS.out _ (mem_of_getD _ _ _ (by rw [HVL.out]; exact hlt))
      have HO4 := Lib.hid (HO3.out.put hlk2 (i := j) (c := 2) (q := j * 4 + 2) (u := .string (markT (m + 2))) (d := { d with a := m, b := (m : Int) + 1 }) (d' := { d with a := m, b := (m : Int) + 1, name := markT (m + 2) }) hlt (by omega) rfl hgd (fun v => rfl) rfl (by decide))
      have HR4 := Lib.hid (HR3.out.set HPG.out (j * 4 + 2) (.string (markT (m + 2))))
      have HLJ := Lib.hid hlj
      have hsl : ({ d with a := m, b := (m : Int) + 1 } : ItD).subs.length = d.subs.length := rfl
      clear hrow hblk hb1 e3 hgd hlk2 hlj
      have HS4 : Hid (SubO (w1.setCell ⟨g, j * 4 + 2, none⟩ (.string (markT (m + 2)))) base (vs.getD j (.slice none 0 0)) d.subs) := by
        have hx := HO4.out.subs j (by rw [List.length_set, List.length_set, List.length_set]; exact HLJ.out)
        rw [getD_set_ _ _ _ _ _ (by rw [List.length_set, List.length_set]; exact HLJ.out), if_pos rfl] at hx
        exact hx
      have HK := Lib.hid (markStringS_own base (m + 3) _ d.subs _ HS4.out hsm (by omega))
      rw [HE3.out] at HK
      have HX : Hid (∀ w2, SubO w2 base (vs.getD j (.slice none 0 0)) (marks d.subs.length (m + 3)) → World.grownBy (w1.setCell ⟨g, j * 4 + 2, none⟩ (.string (markT (m + 2)))) w2 (vs.getD j (.slice none 0 0)).ownBlock → OwnIts w2 base 42 (.slice (some ⟨g, 0, none⟩) n cap) (cu.set j (mkIt d m)) vs) := fun w2 hs2 hg2 => by
        have hx := HO4.out.mark (w' := w2) (i := j) (ss := marks d.subs.length (m + 3)) (by rw [List.length_set, List.length_set, List.length_set]; exact HLJ.out) hs2 hg2 (by decide)
        rw [getD_set_ _ _ _ _ _ (by rw [List.length_set, List.length_set]; exact HLJ.out), if_pos rfl, List.set_set, List.set_set, List.set_set] at hx
        exact hx
      rw [HE3.out] at HX HV3
      have HRX := Lib.hid (fun w2 (hg2 : World.grownBy _ w2 _) => HR4.out.trans (Chg.of_grown hg2 HV3.out))
      generalize markT (m + 2) = mt at *
      clear hsl HE3 HO4 HR4 HS4 HO3 HR3 HO2 HR2 HO1 HR HSB
      go_wp2_with fail
      rw [show ((m : Int) + 2 + 1) = ((m + 3 : Nat) : Int) from by omega]
      refine (HK.out).mono ?_
      rintro e w2 ⟨rfl, hsub2, hg2⟩
      have HON := Lib.hid (HX.out _ hsub2 hg2)
      have HRN := Lib.hid (HRX.out _ hg2)
      clear hsub2 hg2
      go_wp2_with fail
      go_roundw
      case rel => exact ⟨j + 1, m + 3 + d.subs.length, by omega, by go_num, by go_num, HE.out.symm, by rw [HI.out]; exact HON.out, HRN.out⟩
      case measure => simp [intOf]; omega
    · obtain rfl : j = n := by omega
      go_wp2_with fail
      go_ret
      exact ⟨by rw [HN.out, ← hm.out]; rfl, by rw [HN.out]; exact HO1.out, HR.out⟩

set_option maxHeartbeats 1000000 in
theorem heldStringS_big (A : Option Addr) (n c k : Nat) (w : World) (h : Strs w w.heap.size A n (marks n k)) (hn : n ≤ 1048576) (hk : k ≤ 4398046511104) :
    Calls Tryz.prog 114 #[.slice A n c, .int .i64 k] w fun e w' => e = .returned (.int .i64 (k + n : Nat)) ∧ Below w.heap.size w w' := by
  have Hh := Lib.hid h
  clear h
  go_enter Tryz.func114, Tryz.ntmps114
  go_wp2_with fail
  go_loopw [1, 5] (fun q i wr => ∃ (j : Nat), j ≤ n ∧ i = .int .i64 j ∧ q = .int .i64 (k + j : Nat) ∧ Below w.heap.size w wr) (fun _ i _ => n - (intOf i).toNat)
  case atStart => exact ⟨0, Nat.zero_le _, rfl, rfl, Below.refl _ _⟩
  case round =>
    obtain ⟨j, hj, rfl, rfl, hb⟩ := hrel
    have HB := Lib.hid hb
    clear hb
    by_cases hlt : j < n
    · obtain ⟨b, o, rfl, hbB, hc⟩ := (Hh.out.later HB.out).2 (by omega)
      have hck := hc j hlt
      rw [marks_at _ _ _ hlt] at hck
      have HK := Lib.hid (fun W => markText_any (k + j) W (by omega))
      clear hc
      generalize markT (k + j) = mt at *
      go_wp2_with fail
      go_region_held3 (fun w' => w'.cell? ⟨b, o + j, none⟩ = some (.string mt)) (first | exact hck | exact cell_later hb1 hck)
        (first | (go_at_call 73; refine (HK.out _).mono ?_; rintro e w1 ⟨rfl, hb1'⟩; have hb1 := undrew hb1'; clear hb1'))
      have HB1 := Lib.hid (HB.out.later hb1)
      clear hb1
      go_wp2_with fail
      go_roundw
      case rel => exact ⟨j + 1, by omega, by go_num, by go_num, HB1.out⟩
      case measure => simp [intOf]; omega
    · obtain rfl : j = n := by omega
      go_wp2_with fail
      go_ret
      exact ⟨rfl, HB.out⟩

set_option maxRecDepth 100000 in
set_option maxHeartbeats 1000000 in
theorem heldLockS_any (A : Option Addr) (n c k : Nat) (fs : List ItD) (w : World) (h : Its w w.heap.size A n (mkIts fs k fs.length)) (hs : smalls fs) (hk : k ≤ 2199023255552) :
    Calls Tryz.prog 74 #[.slice A n c, .int .i64 k] w fun e w' => e = .returned (.int .i64 (mkAt fs k fs.length : Nat)) ∧ Below w.heap.size w w' := by
  have hnl : fs.length = n := (mkIts_len fs k fs.length).symm.trans h.1
  have HH := Lib.hid h
  have HS := Lib.hid hs
  have hn : n ≤ 1048576 := by rw [← hnl]; exact hs.1
  have HLE := Lib.hid (fun j hj => mkAt_le fs k hs j hj)
  have HN := Lib.hid hnl
  clear h hs hnl
  rw [HN.out] at HH HLE
  go_enter Tryz.func74, Tryz.ntmps74
  go_wp2_with fail
  go_loopw [1, 5] (fun q i wr => ∃ (j m : Nat), j ≤ n ∧ i = .int .i64 j ∧ q = .int .i64 (m : Nat) ∧ Hid (m = mkAt fs k j) ∧ Below w.heap.size w wr) (fun _ i _ => n - (intOf i).toNat)
  case atStart => exact ⟨0, k, Nat.zero_le _, rfl, rfl, rfl, Below.refl _ _⟩
  case round =>
    obtain ⟨j, m, hj, rfl, rfl, hm, hb⟩ := hrel
    have HB := Lib.hid hb
    clear hb
    by_cases hlt : j < n
    · obtain ⟨b, o, rfl, hbB, hc⟩ := (HH.out.later HB.out).2 (by omega)
      obtain ⟨c0, c1, c2, c3, k0, k1, k2, k3, hr⟩ := hc j hlt
      clear hc
      rw [mkIts_at fs k n j hlt (by rw [HN.out]; exact Nat.le_refl _), ← hm.out] at hr
      have hmle : m ≤ 4398046511104 - 10 := by
        have h1 := HLE.out j (by omega)
        rw [hm.out]
        omega
      have hsm := (HS.out.2 _ (getD_mem fs j (by rw [HN.out]; exact hlt))).2.1
      have HE : Hid (mkAt fs k (j + 1) = m + 3 + (fs.getD j default).subs.length) := by unfold Hid; rw [mkAt, ← hm.out]
      generalize fs.getD j default = d at *
      obtain ⟨e0, e1, e2, A3, n3, cap3, e3, hs3, _⟩ := hr
      obtain rfl : d.subs.length = n3 := (marks_len _ _).symm.trans hs3.1
      subst e0 e1 e2 e3
      unfold mkIt at k0 k1 k2
      dsimp only at k0 k1 k2
      have HT := Lib.hid (fun W => markText_any (m + 2) W (by omega))
      have HK := Lib.hid (fun W (hW : Below wr.heap.size wr W) => heldStringS_big A3 d.subs.length cap3 (m + 3) W (hs3.later hW) hsm (by omega))
      clear hs3
      generalize markT (m + 2) = mt at *
      go_wp2_with fail
      rw [show ((m : Int) + 1 + 1) = ((m + 2 : Nat) : Int) from by omega]
      go_region_held3 (fun w' => w'.cell? ⟨b, o + j * 4 + 2, none⟩ = some (.string mt)) (first | exact k2 | exact cell_later hb1 k2)
        (first | (go_at_call 73; refine (HT.out _).mono ?_; rintro e w1 ⟨rfl, hb1'⟩; have hb1 := undrew hb1'; clear hb1'))
      have HB1 := Lib.hid hb1
      have k3' := cell_later hb1 k3
      clear hb1 k0 k1 k2 k3
      go_wp2_with fail
      first | rw [show ((m : Int) + 2 + 1) = ((m + 3 : Nat) : Int) from by omega] | rw [show ((m + 2 : Nat) : Int) + 1 = ((m + 3 : Nat) : Int) from by omega]
      refine (HK.out _ HB1.out).mono ?_
      rintro e w2 ⟨rfl, hb2⟩
      have HB2 := Lib.hid ((HB.out.later HB1.out).later hb2)
      clear hb2
      go_wp2_with fail
      go_roundw
      case rel => exact ⟨j + 1, m + 3 + d.subs.length, by omega, by go_num, by go_num, HE.out.symm, HB2.out⟩
      case measure => simp [intOf]; omega
    · obtain rfl : j = n := by omega
      go_wp2_with fail
      go_ret
      exact ⟨by rw [HN.out, ← hm.out]; rfl, HB.out⟩

set_option maxRecDepth 100000 in
set_option maxHeartbeats 1000000 in
theorem heldAskS_any (A : Option Addr) (n c k : Nat) (fs : List ItD) (w : World) (h : Its w w.heap.size A n (mkIts fs k fs.length)) (hs : smalls fs) (hk : k ≤ 2199023255552) :
    Calls Tryz.prog 75 #[.slice A n c, .int .i64 k] w fun e w' => e = .returned (.int .i64 (mkAt fs k fs.length : Nat)) ∧ Below w.heap.size w w' := by
  have hnl : fs.length = n := (mkIts_len fs k fs.length).symm.trans h.1
  have HH := Lib.hid h
  have HS := Lib.hid hs
  have hn : n ≤ 1048576 := by rw [← hnl]; exact hs.1
  have HLE := Lib.hid (fun j hj => mkAt_le fs k hs j hj)
  have HN := Lib.hid hnl
  clear h hs hnl
  rw [HN.out] at HH HLE
  go_enter Tryz.func75, Tryz.ntmps75
  go_wp2_with fail
  go_loopw [1, 5] (fun q i wr => ∃ (j m : Nat), j ≤ n ∧ i = .int .i64 j ∧ q = .int .i64 (m : Nat) ∧ Hid (m = mkAt fs k j) ∧ Below w.heap.size w wr) (fun _ i _ => n - (intOf i).toNat)
  case atStart => exact ⟨0, k, Nat.zero_le _, rfl, rfl, rfl, Below.refl _ _⟩
  case round =>
    obtain ⟨j, m, hj, rfl, rfl, hm, hb⟩ := hrel
    have HB := Lib.hid hb
    clear hb
    by_cases hlt : j < n
    · obtain ⟨b, o, rfl, hbB, hc⟩ := (HH.out.later HB.out).2 (by omega)
      obtain ⟨c0, c1, c2, c3, k0, k1, k2, k3, hr⟩ := hc j hlt
      clear hc
      rw [mkIts_at fs k n j hlt (by rw [HN.out]; exact Nat.le_refl _), ← hm.out] at hr
      have hmle : m ≤ 4398046511104 - 10 := by
        have h1 := HLE.out j (by omega)
        rw [hm.out]
        omega
      have hsm := (HS.out.2 _ (getD_mem fs j (by rw [HN.out]; exact hlt))).2.1
      have HE : Hid (mkAt fs k (j + 1) = m + 3 + (fs.getD j default).subs.length) := by unfold Hid; rw [mkAt, ← hm.out]
      generalize fs.getD j default = d at *
      obtain ⟨e0, e1, e2, A3, n3, cap3, e3, hs3, _⟩ := hr
      obtain rfl : d.subs.length = n3 := (marks_len _ _).symm.trans hs3.1
      subst e0 e1 e2 e3
      unfold mkIt at k0 k1 k2
      dsimp only at k0 k1 k2
      have HT := Lib.hid (fun W => markText_any (m + 2) W (by omega))
      have HK := Lib.hid (fun W (hW : Below wr.heap.size wr W) => heldStringS_big A3 d.subs.length cap3 (m + 3) W (hs3.later hW) hsm (by omega))
      clear hs3
      generalize markT (m + 2) = mt at *
      go_wp2_with fail
      rw [show ((m : Int) + 1 + 1) = ((m + 2 : Nat) : Int) from by omega]
      go_region_held3 (fun w' => w'.cell? ⟨b, o + j * 4 + 2, none⟩ = some (.string mt)) (first | exact k2 | exact cell_later hb1 k2)
        (first | (go_at_call 73; refine (HT.out _).mono ?_; rintro e w1 ⟨rfl, hb1'⟩; have hb1 := undrew hb1'; clear hb1'))
      have HB1 := Lib.hid hb1
      have k3' := cell_later hb1 k3
      clear hb1 k0 k1 k2 k3
      go_wp2_with fail
      first | rw [show ((m : Int) + 2 + 1) = ((m + 3 : Nat) : Int) from by omega] | rw [show ((m + 2 : Nat) : Int) + 1 = ((m + 3 : Nat) : Int) from by omega]
      refine (HK.out _ HB1.out).mono ?_
      rintro e w2 ⟨rfl, hb2⟩
      have HB2 := Lib.hid ((HB.out.later HB1.out).later hb2)
      clear hb2
      go_wp2_with fail
      go_roundw
      case rel => exact ⟨j + 1, m + 3 + d.subs.length, by omega, by go_num, by go_num, HE.out.symm, HB2.out⟩
      case measure => simp [intOf]; omega
    · obtain rfl : j = n := by omega
      go_wp2_with fail
      go_ret
      exact ⟨by rw [HN.out, ← hm.out]; rfl, HB.out⟩

set_option maxRecDepth 100000 in
set_option maxHeartbeats 1000000 in
theorem markLocks_any (base k : Nat) (P : Nat → Prop) (v0 v1 : Value) (held asks : List ItD) (vs us : List Value) (w : World) (h : OwnIts w base 37 v0 held vs) (ha : OwnIts w base 42 v1 asks us) (hx : ∀ x ∈ vs, ∀ y ∈ us, apart x y) (hs : smalls held) (hsa : smalls asks) (hk : k ≤ 1)
    (hu : inP P v0) (hus : ∀ u ∈ vs, inP P u) (hua : inP P v1) (huas : ∀ u ∈ us, inP P u) :
    Calls Tryz.prog 31 #[.agg #[v0, v1], .int .i64 k] w fun e w' => e = .returned (.int .i64 (mkAt asks (mkAt held k held.length) asks.length : Nat)) ∧
      OwnIts w' base 37 v0 (mkIts held k held.length) vs ∧ OwnIts w' base 42 v1 (mkIts asks (mkAt held k held.length) asks.length) us ∧ Chg P w w' := by
  have HK1 := Lib.hid (fun W (hW : Below w.heap.size w W) => markLockS_any base k (blocksOf v0 vs) v0 held vs W (h.later hW) hs (by omega) (fun g hg => .inl hg) (fun u hu g hg => .inr ⟨u, hu, hg⟩))
  have hm1 : mkAt held k held.length ≤ 2199023255552 := by have := mkAt_le held k hs held.length (Nat.le_refl _); have := hs.1; omega
  have HK2 := Lib.hid (fun W (hW : OwnIts W base 42 v1 asks us) => markAskS_any base (mkAt held k held.length) (blocksOf v1 us) v1 asks us W hW hsa hm1 (fun g hg => .inl hg) (fun u hu g hg => .inr ⟨u, hu, hg⟩))
  have HKA : Hid (∀ W W', Below w.heap.size w W → Chg (blocksOf v0 vs) W W' → OwnIts W' base 42 v1 asks us) := fun W W' hW hC => by
    refine (ha.later hW).chg hC (fun g hg hb => ?_) (fun u hu' g hg hb => ?_)
    · rcases hb with hb | ⟨x, hxm, hb⟩
      · have := apart_types h.row ha.row (by decide)
        rcases this with h1 | h1
        · rw [hb] at h1; cases h1
        · exact h1 (hb.trans hg.symm)
      · obtain ⟨j, hj, rfl⟩ := mem_getD hxm
        have := apart_types (h.subs j (by rw [← h.len]; exact hj)) ha.row (by decide)
        rcases this with h1 | h1
        · rw [hb] at h1; cases h1
        · exact h1 (hb.trans hg.symm)
    · rcases hb with hb | ⟨x, hxm, hb⟩
      · obtain ⟨j, hj, rfl⟩ := mem_getD hu'
        have := apart_types h.row (ha.subs j (by rw [← ha.len]; exact hj)) (by decide)
        rcases this with h1 | h1
        · rw [hb] at h1; cases h1
        · exact h1 (hb.trans hg.symm)
      · rcases hx x hxm u hu' with h1 | h1
        · rw [hb] at h1; cases h1
        · exact h1 (hb.trans hg.symm)
  have HKH : Hid (∀ W W', OwnIts W base 37 v0 (mkIts held k held.length) vs → Chg (blocksOf v1 us) W W' → OwnIts W' base 37 v0 (mkIts held k held.length) vs) := fun W W' hW hC => by
    refine hW.chg hC (fun g hg hb => ?_) (fun u hu' g hg hb => ?_)
    · rcases hb with hb | ⟨y, hym, hb⟩
      · rcases apart_types h.row ha.row (by decide) with h1 | h1
        · rw [hg] at h1; cases h1
        · exact h1 (hg.trans hb.symm)
      · obtain ⟨j, hj, rfl⟩ := mem_getD hym
        rcases apart_types h.row (ha.subs j (by rw [← ha.len]; exact hj)) (by decide) with h1 | h1
        · rw [hg] at h1; cases h1
        · exact h1 (hg.trans hb.symm)
    · rcases hb with hb | ⟨y, hym, hb⟩
      · obtain ⟨j, hj, rfl⟩ := mem_getD hu'
        rcases apart_types (h.subs j (by rw [← h.len]; exact hj)) ha.row (by decide) with h1 | h1
        · rw [hg] at h1; cases h1
        · exact h1 (hg.trans hb.symm)
      · rcases hx u hu' y hym with h1 | h1
        · rw [hg] at h1; cases h1
        · exact h1 (hg.trans hb.symm)
  have HP0 : Hid (∀ g, blocksOf v0 vs g → P g ∧ g < w.heap.size) := fun g hg => by
    rcases hg with hg | ⟨u, hu', hg⟩
    · exact ⟨hu g hg, (h.row.lt g hg).2⟩
    · refine ⟨hus u hu' g hg, ?_⟩
      obtain ⟨j, hj, rfl⟩ := mem_getD hu'
      exact (World.ownsRow.lt (h.subs j (by rw [← h.len]; exact hj)) g hg).2
  have HP1 : Hid (∀ g, blocksOf v1 us g → P g) := fun g hg => by
    rcases hg with hg | ⟨u, hu', hg⟩
    · exact hua g hg
    · exact huas u hu' g hg
  obtain ⟨A0, cap0, rfl, _⟩ := own_slice h.row
  obtain ⟨A1, cap1, rfl, _⟩ := own_slice ha.row
  clear h ha hx hs hsa hu hus hua huas
  generalize hm1e : mkAt held k held.length = m1 at *
  have HM1 := Lib.hid hm1e
  clear hm1e
  go_enter Tryz.func31, Tryz.ntmps31
  go_wp2_with fail
  refine (HK1.out _ (by exact Below.new _ _)).mono ?_
  rintro e w1 ⟨rfl, hO1, hC1⟩
  rw [HM1.out]
  have HOA := Lib.hid (HKA.out _ _ (Below.new _ _) hC1)
  have HBX := Lib.hid (Blk.chg (heap_last (o := .cells #[.slice A0 held.length cap0, .slice A1 asks.length cap1] 27) rfl) hC1 (fun hp => by have := (HP0.out _ hp).2; omega))
  have HC1 : Hid (Chg P w w1) := (Chg.of_below (Below.new _ _)).trans (hC1.mono fun g hg => (HP0.out g hg).1)
  have HO1 := Lib.hid hO1
  clear hO1 hC1
  have p1 := HBX.out.cell 1
  have z1 := HBX.out.lt
  simp at p1
  go_wp2_with fail
  refine (HK2.out _ HOA.out).mono ?_
  rintro e w2 ⟨rfl, hO2, hC2⟩
  have HO2 := Lib.hid hO2
  have HO3 := Lib.hid (HKH.out _ _ HO1.out hC2)
  have HC2 := Lib.hid (HC1.out.trans (hC2.mono fun g hg => HP1.out g hg))
  clear hO2 hC2
  go_wp2_with fail
  go_ret
  exact ⟨rfl, HO3.out, HO2.out, HC2.out⟩

set_option maxRecDepth 100000 in
set_option maxHeartbeats 1000000 in
theorem heldLocks_any (A A' : Option Addr) (n c n' c' k : Nat) (held asks : List ItD) (w : World) (hs : smalls held) (hsa : smalls asks) (hk : k ≤ 1) (h : Its w w.heap.size A n (mkIts held k held.length)) (ha : Its w w.heap.size A' n' (mkIts asks (mkAt held k held.length) asks.length)) :
    Calls Tryz.prog 33 #[.agg #[.slice A n c, .slice A' n' c'], .int .i64 k] w fun e w' => e = .returned (.int .i64 (mkAt asks (mkAt held k held.length) asks.length : Nat)) ∧ Below w.heap.size w w' := by
  have hm1 : mkAt held k held.length ≤ 2199023255552 := by have := mkAt_le held k hs held.length (Nat.le_refl _); have := hs.1; omega
  have HK1 := Lib.hid (fun W (hW : Below w.heap.size w W) => heldLockS_any A n c k held W (h.later hW) hs (by omega))
  have HK2 := Lib.hid (fun W (hW : Below w.heap.size w W) => heldAskS_any A' n' c' (mkAt held k held.length) asks W (ha.later hW) hsa hm1)
  clear h ha hs hsa
  generalize mkAt held k held.length = m1 at *
  generalize mkAt asks m1 asks.length = m2 at *
  go_enter Tryz.func33, Tryz.ntmps33
  go_wp2_with fail
  refine (HK1.out _ (by exact Below.new _ _)).mono ?_
  rintro e w1 ⟨rfl, hb1⟩
  have HB := Lib.hid ((Below.new _ _).later hb1)
  have p1 := box_at hb1 1
  have z1 := hb1.size
  clear hb1
  go_wp2_with fail
  refine (HK2.out _ HB.out).mono ?_
  rintro e w2 ⟨rfl, hb2⟩
  have HB2 := Lib.hid (HB.out.later hb2)
  clear hb2
  go_wp2_with fail
  go_ret
  exact ⟨rfl, HB2.out⟩
end Go.Proofs.YtiebcdajoddkpaaGreatDoor
