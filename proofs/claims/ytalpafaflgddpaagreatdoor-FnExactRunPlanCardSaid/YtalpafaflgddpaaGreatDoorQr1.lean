/-
  Queries of the reference: what QueryOk computes. (Printed by gen_qr1.py.)
-/
import Derived.Test.YtalpafaflgddpaaGreatDoorTb2
namespace Go.Proofs.YtalpafaflgddpaaGreatDoor
open Go.RowKit

theorem ne_empty {s : ByteArray} (h : s ≠ ⟨#[]⟩) : (s.toList == []) = false := by
  have := str_beq h
  simpa [toList_data] using this
def condB (c : CondD) : Bool := nameB c.col && (inB c.op 1 4 && valueB c.val)
def orderB (od : ByteArray) : Bool := decide (od = ⟨#[]⟩) || nameB od
def queryB (q : QueryD) : Bool := nameB q.table && (decide (q.cols.length ≤ 5) && (decide (q.wher.length ≤ 3) && (orderB q.order && ((!q.desc || decide (q.order ≠ ⟨#[]⟩)) && (inB q.limit 0 24 && (allFrom (colAt q.cols) 0 q.cols.length && q.wher.all condB))))))
theorem all_step {α : Type} [Inhabited α] (p : α → Bool) (l : List α) (k : Nat) (h : k < l.length) : (l.drop k).all p = (p (l.getD k default) && (l.drop (k + 1)).all p) := by
  rw [List.drop_eq_getElem_cons h, List.all_cons, List.getD_eq_getElem?_getD, List.getElem?_eq_getElem h]; rfl

set_option maxRecDepth 100000 in
set_option maxHeartbeats 4000000 in
theorem specQueryOk_any (c0 c1 c2 c3 c4 c5 : Value) (d : QueryD) (w : World) (h : QueryR w w.heap.size c0 c1 c2 c3 c4 c5 d) (hs : d.small) :
    Calls Tryz.prog 83 #[.agg #[c0, c1, c2, c3, c4, c5]] w fun e w' => e = .returned (.bool (queryB d)) ∧ Below w.heap.size w w' := by
  obtain ⟨rfl, ⟨A1, n1, p1, rfl, s1, k1⟩, ⟨A2, n2, p2, rfl, s2, k2⟩, rfl, rfl, rfl⟩ := h
  obtain ⟨f0, ⟨f1, f1'⟩, ⟨f2, f2'⟩, f3⟩ := hs
  have hn1 : n1 ≤ 1048576 := by rw [← s1.1]; exact f1
  have hn2 : n2 ≤ 1048576 := by rw [← s2.1]; exact f2
  have hR : queryB d = (nameB d.table && (decide (n1 ≤ 5) && (decide (n2 ≤ 3) && (orderB d.order && ((!d.desc || decide (d.order ≠ ⟨#[]⟩)) && (inB d.limit 0 24 && (allFrom (colAt d.cols) 0 n1 && d.wher.all condB))))))) := by unfold queryB; rw [s1.1, s2.1]
  have HR := Lib.hid hR
  clear hR
  have HK0 := Lib.hid (fun W => specNameOk_any d.table W f0)
  have HK3 := Lib.hid (fun W => specNameOk_any d.order W f3)
  have HK5 := Lib.hid (fun W => l00In_any d.limit 0 24 W)
  have HS1 := Lib.hid s1
  have HS2 := Lib.hid s2
  have HZ1 := Lib.hid f1'
  have HZ2 := Lib.hid f2'
  clear s1 s2 f2' f1' f2 f1 f0 f3
  have HO : Hid (orderB d.order = (decide (d.order = ⟨#[]⟩) || nameB d.order)) := rfl
  generalize queryB d = R at *
  generalize orderB d.order = xo at *
  generalize nameB d.table = x0 at *
  generalize nameB d.order = x3 at *
  generalize inB d.limit 0 24 = x5 at *
  generalize d.table = tb at *
  generalize d.order = od at *
  generalize d.desc = ds at *
  generalize d.limit = lm at *
  generalize d.cols = cols at *
  generalize d.wher = wher at *
  have HB0 := Lib.hid (Below.new w (.cells #[.string tb, .slice A1 n1 p1, .slice A2 n2 p2, .string od, .bool ds, .int .i64 lm] 47))
  have HBq := Lib.hid (fun q => below_drewN (Below.new w (.cells #[.string tb, .slice A1 n1 p1, .slice A2 n2 p2, .string od, .bool ds, .int .i64 lm] 47)) q)
  go_enter Tryz.func83, Tryz.ntmps83
  go_wp2_with fail
  refine (HK0.out _).mono ?_
  rintro e w1 ⟨rfl, rfl⟩
  cases x0
  · have HE : Hid (R = false) := by unfold Hid; rw [HR.out]; rfl
    go_wp2_with fail
    go_ret
    exact ⟨ret_bool HE.out.symm, HB0.out⟩
  by_cases a1 : 5 < n1
  · have HE : Hid (R = false) := by unfold Hid; rw [HR.out, decide_eq_false (show ¬ n1 ≤ 5 by omega)]; rfl
    go_wp2_with fail
    go_ret
    exact ⟨ret_bool HE.out.symm, HB0.out⟩
  by_cases a2 : 3 < n2
  · have HE : Hid (R = false) := by unfold Hid; rw [HR.out, decide_eq_false (show ¬ n2 ≤ 3 by omega)]; simp
    go_wp2_with fail
    go_ret
    exact ⟨ret_bool HE.out.symm, HB0.out⟩
  have HR1 : Hid (R = (xo && ((!ds || decide (od ≠ ⟨#[]⟩)) && (x5 && (allFrom (colAt cols) 0 n1 && wher.all condB))))) := by unfold Hid; rw [HR.out, decide_eq_true (show n1 ≤ 5 by omega), decide_eq_true (show n2 ≤ 3 by omega)]; rfl
  clear HR
  by_cases ho : od = ⟨#[]⟩
  · subst ho
    cases ds
    · have HR2 : Hid (R = (x5 && (allFrom (colAt cols) 0 (n1 - 0) && wher.all condB))) := by unfold Hid; rw [HR1.out, HO.out]; rfl
      go_wp2_with fail
      refine (HK5.out _).mono ?_
      rintro e w1 ⟨rfl, rfl⟩
      cases x5
      · have HE : Hid (R = false) := by unfold Hid; rw [HR2.out]; rfl
        go_wp2_with fail
        go_ret
        exact ⟨ret_bool HE.out.symm, HB0.out⟩
      have HE : Hid (R = (allFrom (colAt cols) 0 (n1 - 0) && wher.all condB)) := by unfold Hid; rw [HR2.out]; rfl
      clear HR2 HR1
      go_wp2_with fail
      go_loopw [3] (fun i wr => ∃ (k q : Nat), k ≤ n1 ∧ i = .int .i64 k ∧ wr = (w.alloc (.cells #[.string tb, .slice A1 n1 p1, .slice A2 n2 p2, .string ⟨#[]⟩, .bool false, .int .i64 lm] 47)).drewN q ∧ Hid (R = (allFrom (colAt cols) k (n1 - k) && wher.all condB))) (fun i _ => n1 - (intOf i).toNat)
      case atStart => exact ⟨0, 0, Nat.zero_le _, rfl, rfl, HE.out⟩
      case round =>
        obtain ⟨k, q, hk, rfl, rfl, hS⟩ := hrel
        by_cases hlt : k < n1
        · obtain ⟨b, o, rfl, hb, hcell⟩ := HS1.out.2 (by omega)
          have hck := hcell k hlt
          clear hcell
          have hl : k < cols.length := by rw [HS1.out.1]; exact hlt
          have HSt := Lib.hid (allFrom_step (colAt cols) k n1 hlt)
          have HC : Hid (colAt cols k = (nameB (cols.getD k ByteArray.empty) && decide (placeI (cols.take k) (cols.getD k ByteArray.empty) < 0))) := rfl
          have HKn := Lib.hid (fun W => specNameOk_any (cols.getD k ByteArray.empty) W (strs_sz HZ1.out k hl))
          have HKp := Lib.hid (fun W (hW : Below w.heap.size w W) => l29Place_any (some ⟨b, o, none⟩) k p1 (cols.take k) (cols.getD k ByteArray.empty) W ((HS1.out.take k (by omega)).later hW) (by omega))
          have hbd := placeI_bd (cols.take k) (cols.getD k ByteArray.empty)
          have hlk : (cols.take k).length = k := by rw [List.length_take]; omega
          rw [hlk] at hbd
          have i1 : (k : Int) < (n1 : Int) := by omega
          have i2 : (k : Int) ≤ (n1 : Int) := by omega
          have i3 : (k : Int) ≤ (p1 : Int) := by omega
          have i4 : (0 : Int) ≤ (k : Int) := by omega
          clear hl hlk
          generalize cols.getD k ByteArray.empty = s at *
          generalize placeI (cols.take k) s = y at *
          generalize nameB s = x at *
          cases x
          · have HE2 : Hid (R = false) := by unfold Hid; rw [hS.out, HSt.out, HC.out]; rfl
            go_wp2_with fail
            go_quiet (first | (go_at_call 117; refine quiet_add (HKn.out _)))
            go_wp2_with fail
            go_ret
            exact ⟨ret_bool HE2.out.symm, by first | exact HBq.out _ | exact below_drewN (HBq.out _) _⟩
          · by_cases hy : 0 ≤ y
            · have HE2 : Hid (R = false) := by unfold Hid; rw [hS.out, HSt.out, HC.out, decide_eq_false (show ¬ y < 0 by omega)]; rfl
              have hd : decide (0 ≤ y) = true := decide_eq_true hy
              go_wp2_with fail
              go_quiet (first | (go_at_call 117; refine quiet_add (HKn.out _)) | (go_at_call 84; refine quiet_add (HKp.out _ (by exact HBq.out _))))
              go_wp2_with fail
              go_ret
              exact ⟨ret_bool HE2.out.symm, by first | exact HBq.out _ | exact below_drewN (HBq.out _) _⟩
            · have HE2 : Hid (R = (allFrom (colAt cols) (k + 1) (n1 - (k + 1)) && wher.all condB)) := by unfold Hid; rw [hS.out, HSt.out, HC.out, decide_eq_true (show y < 0 by omega)]; rfl
              have hd : decide (0 ≤ y) = false := decide_eq_false hy
              go_wp2_with fail
              go_quiet (first | (go_at_call 117; refine quiet_add (HKn.out _)) | (go_at_call 84; refine quiet_add (HKp.out _ (by exact HBq.out _))))
              go_wp2_with fail
              go_roundw
              case rel => exact ⟨k + 1, _, by omega, by go_num, rfl, HE2.out⟩
              case measure => simp [intOf]; omega
        · have HE2 : Hid (R = (wher.drop 0).all condB) := by unfold Hid; rw [hS.out, allFrom_end _ _ _ hlt]; rfl
          clear hS HE
          go_wp2_with fail
          go_loopw [4] (fun i wr => ∃ (j : Nat), j ≤ n2 ∧ i = .int .i64 j ∧ Below (w.heap.size + 1) (w.alloc (.cells #[.string tb, .slice A1 n1 p1, .slice A2 n2 p2, .string ⟨#[]⟩, .bool false, .int .i64 lm] 47)) wr ∧ Hid (R = (wher.drop j).all condB)) (fun i _ => n2 - (intOf i).toNat)
          case atStart => exact ⟨0, Nat.zero_le _, rfl, below_drewN (Below.refl _ _) _, HE2.out⟩
          case round =>
            obtain ⟨j, hj, rfl, hb, hS2⟩ := hrel
            have p2' := (Blk.later (heap_alloc_new w _) hb (by omega)).cell
            have hz0 : w.heap.size < wr.heap.size := by have := hb.size; simp at this; omega
            have HB := Lib.hid hb
            have HBw := Lib.hid ((Below.new _ _).trans (hb.mono (by omega)))
            clear hb
            by_cases hltj : j < n2
            · obtain ⟨b, o, rfl, hb, hcell⟩ := (HS2.out.later HBw.out).2 (by omega)
              obtain ⟨c0, c1, c2, k0, k1', k2', hr⟩ := hcell j hltj
              clear hcell
              have hl : j < wher.length := by rw [HS2.out.1]; exact hltj
              have HSt := Lib.hid (all_step condB wher j hl)
              have hsm := HZ2.out _ (getD_memD wher j hl)
              have HC : Hid (condB (wher.getD j default) = (nameB (wher.getD j default).col && (inB (wher.getD j default).op 1 4 && valueB (wher.getD j default).val))) := rfl
              clear hl
              generalize wher.getD j default = f at *
              obtain ⟨e0, e1, e2⟩ := hr
              subst e0 e1 e2
              have HKa := Lib.hid (fun W => specNameOk_any f.col W hsm.1)
              have HKb := Lib.hid (fun W => l00In_any f.op 1 4 W)
              have HKc := Lib.hid (fun W => l30Value_any f.val W hsm.2)
              clear hsm
              generalize condB f = X at *
              generalize nameB f.col = y0 at *
              generalize inB f.op 1 4 = y1 at *
              generalize valueB f.val = y2 at *
              generalize f.col = cc at *
              generalize f.op = co at *
              generalize f.val = cv at *
              have HBn := Lib.hid (fun o => HBw.out.later (Below.new wr o))
              go_wp2_with fail
              refine (HKa.out _).mono ?_
              rintro e w1 ⟨rfl, rfl⟩
              cases y0
              · have HE3 : Hid (R = false) := by unfold Hid; rw [hS2.out, HSt.out, HC.out]; rfl
                go_wp2_with fail
                go_ret
                exact ⟨ret_bool HE3.out.symm, HBn.out _⟩
              go_wp2_with fail
              refine (HKb.out _).mono ?_
              rintro e w1 ⟨rfl, rfl⟩
              cases y1
              · have HE3 : Hid (R = false) := by unfold Hid; rw [hS2.out, HSt.out, HC.out]; rfl
                go_wp2_with fail
                go_ret
                exact ⟨ret_bool HE3.out.symm, HBn.out _⟩
              go_wp2_with fail
              refine (HKc.out _).mono ?_
              rintro e w1 ⟨rfl, rfl⟩
              cases y2
              · have HE3 : Hid (R = false) := by unfold Hid; rw [hS2.out, HSt.out, HC.out]; rfl
                go_wp2_with fail
                go_ret
                exact ⟨ret_bool HE3.out.symm, HBn.out _⟩
              have HE3 : Hid (R = (wher.drop (j + 1)).all condB) := by unfold Hid; rw [hS2.out, HSt.out, HC.out]; rfl
              have HB1 := Lib.hid (fun o => HB.out.trans ((Below.new wr o).mono (by omega)))
              go_wp2_with fail
              go_roundw
              case rel => exact ⟨j + 1, by omega, by go_num, HB1.out _, HE3.out⟩
              case measure => simp [intOf]; omega
            · have HE3 : Hid (R = true) := by unfold Hid; rw [hS2.out, List.drop_of_length_le (by rw [HS2.out.1]; omega)]; rfl
              go_wp2_with fail
              go_ret
              exact ⟨ret_bool HE3.out.symm, HBw.out⟩
    · have HE : Hid (R = false) := by unfold Hid; rw [HR1.out, HO.out]; rfl
      go_wp2_with fail
      go_ret
      exact ⟨ret_bool HE.out.symm, HB0.out⟩
  · have hbe := ne_empty ho
    have hbe2 := str_beq ho
    have hbn := str_bne ho
    have HO2 : Hid (xo = x3) := by unfold Hid; rw [HO.out, decide_eq_false ho]; rfl
    have HO3 : Hid (decide (od ≠ ⟨#[]⟩) = true) := decide_eq_true ho
    clear ho HO
    go_wp2_with fail
    refine (HK3.out _).mono ?_
    rintro e w1 ⟨rfl, rfl⟩
    cases x3
    · have HE : Hid (R = false) := by unfold Hid; rw [HR1.out, HO2.out]; rfl
      go_wp2_with fail
      go_ret
      exact ⟨ret_bool HE.out.symm, HB0.out⟩
    cases ds
    · have HR2 : Hid (R = (x5 && (allFrom (colAt cols) 0 (n1 - 0) && wher.all condB))) := by unfold Hid; rw [HR1.out, HO2.out, HO3.out]; rfl
      go_wp2_with fail
      refine (HK5.out _).mono ?_
      rintro e w1 ⟨rfl, rfl⟩
      cases x5
      · have HE : Hid (R = false) := by unfold Hid; rw [HR2.out]; rfl
        go_wp2_with fail
        go_ret
        exact ⟨ret_bool HE.out.symm, HB0.out⟩
      have HE : Hid (R = (allFrom (colAt cols) 0 (n1 - 0) && wher.all condB)) := by unfold Hid; rw [HR2.out]; rfl
      clear HR2 HR1
      go_wp2_with fail
      go_loopw [3] (fun i wr => ∃ (k q : Nat), k ≤ n1 ∧ i = .int .i64 k ∧ wr = (w.alloc (.cells #[.string tb, .slice A1 n1 p1, .slice A2 n2 p2, .string od, .bool false, .int .i64 lm] 47)).drewN q ∧ Hid (R = (allFrom (colAt cols) k (n1 - k) && wher.all condB))) (fun i _ => n1 - (intOf i).toNat)
      case atStart => exact ⟨0, 0, Nat.zero_le _, rfl, rfl, HE.out⟩
      case round =>
        obtain ⟨k, q, hk, rfl, rfl, hS⟩ := hrel
        by_cases hlt : k < n1
        · obtain ⟨b, o, rfl, hb, hcell⟩ := HS1.out.2 (by omega)
          have hck := hcell k hlt
          clear hcell
          have hl : k < cols.length := by rw [HS1.out.1]; exact hlt
          have HSt := Lib.hid (allFrom_step (colAt cols) k n1 hlt)
          have HC : Hid (colAt cols k = (nameB (cols.getD k ByteArray.empty) && decide (placeI (cols.take k) (cols.getD k ByteArray.empty) < 0))) := rfl
          have HKn := Lib.hid (fun W => specNameOk_any (cols.getD k ByteArray.empty) W (strs_sz HZ1.out k hl))
          have HKp := Lib.hid (fun W (hW : Below w.heap.size w W) => l29Place_any (some ⟨b, o, none⟩) k p1 (cols.take k) (cols.getD k ByteArray.empty) W ((HS1.out.take k (by omega)).later hW) (by omega))
          have hbd := placeI_bd (cols.take k) (cols.getD k ByteArray.empty)
          have hlk : (cols.take k).length = k := by rw [List.length_take]; omega
          rw [hlk] at hbd
          have i1 : (k : Int) < (n1 : Int) := by omega
          have i2 : (k : Int) ≤ (n1 : Int) := by omega
          have i3 : (k : Int) ≤ (p1 : Int) := by omega
          have i4 : (0 : Int) ≤ (k : Int) := by omega
          clear hl hlk
          generalize cols.getD k ByteArray.empty = s at *
          generalize placeI (cols.take k) s = y at *
          generalize nameB s = x at *
          cases x
          · have HE2 : Hid (R = false) := by unfold Hid; rw [hS.out, HSt.out, HC.out]; rfl
            go_wp2_with fail
            go_quiet (first | (go_at_call 117; refine quiet_add (HKn.out _)))
            go_wp2_with fail
            go_ret
            exact ⟨ret_bool HE2.out.symm, by first | exact HBq.out _ | exact below_drewN (HBq.out _) _⟩
          · by_cases hy : 0 ≤ y
            · have HE2 : Hid (R = false) := by unfold Hid; rw [hS.out, HSt.out, HC.out, decide_eq_false (show ¬ y < 0 by omega)]; rfl
              have hd : decide (0 ≤ y) = true := decide_eq_true hy
              go_wp2_with fail
              go_quiet (first | (go_at_call 117; refine quiet_add (HKn.out _)) | (go_at_call 84; refine quiet_add (HKp.out _ (by exact HBq.out _))))
              go_wp2_with fail
              go_ret
              exact ⟨ret_bool HE2.out.symm, by first | exact HBq.out _ | exact below_drewN (HBq.out _) _⟩
            · have HE2 : Hid (R = (allFrom (colAt cols) (k + 1) (n1 - (k + 1)) && wher.all condB)) := by unfold Hid; rw [hS.out, HSt.out, HC.out, decide_eq_true (show y < 0 by omega)]; rfl
              have hd : decide (0 ≤ y) = false := decide_eq_false hy
              go_wp2_with fail
              go_quiet (first | (go_at_call 117; refine quiet_add (HKn.out _)) | (go_at_call 84; refine quiet_add (HKp.out _ (by exact HBq.out _))))
              go_wp2_with fail
              go_roundw
              case rel => exact ⟨k + 1, _, by omega, by go_num, rfl, HE2.out⟩
              case measure => simp [intOf]; omega
        · have HE2 : Hid (R = (wher.drop 0).all condB) := by unfold Hid; rw [hS.out, allFrom_end _ _ _ hlt]; rfl
          clear hS HE
          go_wp2_with fail
          go_loopw [4] (fun i wr => ∃ (j : Nat), j ≤ n2 ∧ i = .int .i64 j ∧ Below (w.heap.size + 1) (w.alloc (.cells #[.string tb, .slice A1 n1 p1, .slice A2 n2 p2, .string od, .bool false, .int .i64 lm] 47)) wr ∧ Hid (R = (wher.drop j).all condB)) (fun i _ => n2 - (intOf i).toNat)
          case atStart => exact ⟨0, Nat.zero_le _, rfl, below_drewN (Below.refl _ _) _, HE2.out⟩
          case round =>
            obtain ⟨j, hj, rfl, hb, hS2⟩ := hrel
            have p2' := (Blk.later (heap_alloc_new w _) hb (by omega)).cell
            have hz0 : w.heap.size < wr.heap.size := by have := hb.size; simp at this; omega
            have HB := Lib.hid hb
            have HBw := Lib.hid ((Below.new _ _).trans (hb.mono (by omega)))
            clear hb
            by_cases hltj : j < n2
            · obtain ⟨b, o, rfl, hb, hcell⟩ := (HS2.out.later HBw.out).2 (by omega)
              obtain ⟨c0, c1, c2, k0, k1', k2', hr⟩ := hcell j hltj
              clear hcell
              have hl : j < wher.length := by rw [HS2.out.1]; exact hltj
              have HSt := Lib.hid (all_step condB wher j hl)
              have hsm := HZ2.out _ (getD_memD wher j hl)
              have HC : Hid (condB (wher.getD j default) = (nameB (wher.getD j default).col && (inB (wher.getD j default).op 1 4 && valueB (wher.getD j default).val))) := rfl
              clear hl
              generalize wher.getD j default = f at *
              obtain ⟨e0, e1, e2⟩ := hr
              subst e0 e1 e2
              have HKa := Lib.hid (fun W => specNameOk_any f.col W hsm.1)
              have HKb := Lib.hid (fun W => l00In_any f.op 1 4 W)
              have HKc := Lib.hid (fun W => l30Value_any f.val W hsm.2)
              clear hsm
              generalize condB f = X at *
              generalize nameB f.col = y0 at *
              generalize inB f.op 1 4 = y1 at *
              generalize valueB f.val = y2 at *
              generalize f.col = cc at *
              generalize f.op = co at *
              generalize f.val = cv at *
              have HBn := Lib.hid (fun o => HBw.out.later (Below.new wr o))
              go_wp2_with fail
              refine (HKa.out _).mono ?_
              rintro e w1 ⟨rfl, rfl⟩
              cases y0
              · have HE3 : Hid (R = false) := by unfold Hid; rw [hS2.out, HSt.out, HC.out]; rfl
                go_wp2_with fail
                go_ret
                exact ⟨ret_bool HE3.out.symm, HBn.out _⟩
              go_wp2_with fail
              refine (HKb.out _).mono ?_
              rintro e w1 ⟨rfl, rfl⟩
              cases y1
              · have HE3 : Hid (R = false) := by unfold Hid; rw [hS2.out, HSt.out, HC.out]; rfl
                go_wp2_with fail
                go_ret
                exact ⟨ret_bool HE3.out.symm, HBn.out _⟩
              go_wp2_with fail
              refine (HKc.out _).mono ?_
              rintro e w1 ⟨rfl, rfl⟩
              cases y2
              · have HE3 : Hid (R = false) := by unfold Hid; rw [hS2.out, HSt.out, HC.out]; rfl
                go_wp2_with fail
                go_ret
                exact ⟨ret_bool HE3.out.symm, HBn.out _⟩
              have HE3 : Hid (R = (wher.drop (j + 1)).all condB) := by unfold Hid; rw [hS2.out, HSt.out, HC.out]; rfl
              have HB1 := Lib.hid (fun o => HB.out.trans ((Below.new wr o).mono (by omega)))
              go_wp2_with fail
              go_roundw
              case rel => exact ⟨j + 1, by omega, by go_num, HB1.out _, HE3.out⟩
              case measure => simp [intOf]; omega
            · have HE3 : Hid (R = true) := by unfold Hid; rw [hS2.out, List.drop_of_length_le (by rw [HS2.out.1]; omega)]; rfl
              go_wp2_with fail
              go_ret
              exact ⟨ret_bool HE3.out.symm, HBw.out⟩
    · have HR2 : Hid (R = (x5 && (allFrom (colAt cols) 0 (n1 - 0) && wher.all condB))) := by unfold Hid; rw [HR1.out, HO2.out, HO3.out]; rfl
      go_wp2_with fail
      refine (HK5.out _).mono ?_
      rintro e w1 ⟨rfl, rfl⟩
      cases x5
      · have HE : Hid (R = false) := by unfold Hid; rw [HR2.out]; rfl
        go_wp2_with fail
        go_ret
        exact ⟨ret_bool HE.out.symm, HB0.out⟩
      have HE : Hid (R = (allFrom (colAt cols) 0 (n1 - 0) && wher.all condB)) := by unfold Hid; rw [HR2.out]; rfl
      clear HR2 HR1
      go_wp2_with fail
      go_loopw [3] (fun i wr => ∃ (k q : Nat), k ≤ n1 ∧ i = .int .i64 k ∧ wr = (w.alloc (.cells #[.string tb, .slice A1 n1 p1, .slice A2 n2 p2, .string od, .bool true, .int .i64 lm] 47)).drewN q ∧ Hid (R = (allFrom (colAt cols) k (n1 - k) && wher.all condB))) (fun i _ => n1 - (intOf i).toNat)
      case atStart => exact ⟨0, 0, Nat.zero_le _, rfl, rfl, HE.out⟩
      case round =>
        obtain ⟨k, q, hk, rfl, rfl, hS⟩ := hrel
        by_cases hlt : k < n1
        · obtain ⟨b, o, rfl, hb, hcell⟩ := HS1.out.2 (by omega)
          have hck := hcell k hlt
          clear hcell
          have hl : k < cols.length := by rw [HS1.out.1]; exact hlt
          have HSt := Lib.hid (allFrom_step (colAt cols) k n1 hlt)
          have HC : Hid (colAt cols k = (nameB (cols.getD k ByteArray.empty) && decide (placeI (cols.take k) (cols.getD k ByteArray.empty) < 0))) := rfl
          have HKn := Lib.hid (fun W => specNameOk_any (cols.getD k ByteArray.empty) W (strs_sz HZ1.out k hl))
          have HKp := Lib.hid (fun W (hW : Below w.heap.size w W) => l29Place_any (some ⟨b, o, none⟩) k p1 (cols.take k) (cols.getD k ByteArray.empty) W ((HS1.out.take k (by omega)).later hW) (by omega))
          have hbd := placeI_bd (cols.take k) (cols.getD k ByteArray.empty)
          have hlk : (cols.take k).length = k := by rw [List.length_take]; omega
          rw [hlk] at hbd
          have i1 : (k : Int) < (n1 : Int) := by omega
          have i2 : (k : Int) ≤ (n1 : Int) := by omega
          have i3 : (k : Int) ≤ (p1 : Int) := by omega
          have i4 : (0 : Int) ≤ (k : Int) := by omega
          clear hl hlk
          generalize cols.getD k ByteArray.empty = s at *
          generalize placeI (cols.take k) s = y at *
          generalize nameB s = x at *
          cases x
          · have HE2 : Hid (R = false) := by unfold Hid; rw [hS.out, HSt.out, HC.out]; rfl
            go_wp2_with fail
            go_quiet (first | (go_at_call 117; refine quiet_add (HKn.out _)))
            go_wp2_with fail
            go_ret
            exact ⟨ret_bool HE2.out.symm, by first | exact HBq.out _ | exact below_drewN (HBq.out _) _⟩
          · by_cases hy : 0 ≤ y
            · have HE2 : Hid (R = false) := by unfold Hid; rw [hS.out, HSt.out, HC.out, decide_eq_false (show ¬ y < 0 by omega)]; rfl
              have hd : decide (0 ≤ y) = true := decide_eq_true hy
              go_wp2_with fail
              go_quiet (first | (go_at_call 117; refine quiet_add (HKn.out _)) | (go_at_call 84; refine quiet_add (HKp.out _ (by exact HBq.out _))))
              go_wp2_with fail
              go_ret
              exact ⟨ret_bool HE2.out.symm, by first | exact HBq.out _ | exact below_drewN (HBq.out _) _⟩
            · have HE2 : Hid (R = (allFrom (colAt cols) (k + 1) (n1 - (k + 1)) && wher.all condB)) := by unfold Hid; rw [hS.out, HSt.out, HC.out, decide_eq_true (show y < 0 by omega)]; rfl
              have hd : decide (0 ≤ y) = false := decide_eq_false hy
              go_wp2_with fail
              go_quiet (first | (go_at_call 117; refine quiet_add (HKn.out _)) | (go_at_call 84; refine quiet_add (HKp.out _ (by exact HBq.out _))))
              go_wp2_with fail
              go_roundw
              case rel => exact ⟨k + 1, _, by omega, by go_num, rfl, HE2.out⟩
              case measure => simp [intOf]; omega
        · have HE2 : Hid (R = (wher.drop 0).all condB) := by unfold Hid; rw [hS.out, allFrom_end _ _ _ hlt]; rfl
          clear hS HE
          go_wp2_with fail
          go_loopw [4] (fun i wr => ∃ (j : Nat), j ≤ n2 ∧ i = .int .i64 j ∧ Below (w.heap.size + 1) (w.alloc (.cells #[.string tb, .slice A1 n1 p1, .slice A2 n2 p2, .string od, .bool true, .int .i64 lm] 47)) wr ∧ Hid (R = (wher.drop j).all condB)) (fun i _ => n2 - (intOf i).toNat)
          case atStart => exact ⟨0, Nat.zero_le _, rfl, below_drewN (Below.refl _ _) _, HE2.out⟩
          case round =>
            obtain ⟨j, hj, rfl, hb, hS2⟩ := hrel
            have p2' := (Blk.later (heap_alloc_new w _) hb (by omega)).cell
            have hz0 : w.heap.size < wr.heap.size := by have := hb.size; simp at this; omega
            have HB := Lib.hid hb
            have HBw := Lib.hid ((Below.new _ _).trans (hb.mono (by omega)))
            clear hb
            by_cases hltj : j < n2
            · obtain ⟨b, o, rfl, hb, hcell⟩ := (HS2.out.later HBw.out).2 (by omega)
              obtain ⟨c0, c1, c2, k0, k1', k2', hr⟩ := hcell j hltj
              clear hcell
              have hl : j < wher.length := by rw [HS2.out.1]; exact hltj
              have HSt := Lib.hid (all_step condB wher j hl)
              have hsm := HZ2.out _ (getD_memD wher j hl)
              have HC : Hid (condB (wher.getD j default) = (nameB (wher.getD j default).col && (inB (wher.getD j default).op 1 4 && valueB (wher.getD j default).val))) := rfl
              clear hl
              generalize wher.getD j default = f at *
              obtain ⟨e0, e1, e2⟩ := hr
              subst e0 e1 e2
              have HKa := Lib.hid (fun W => specNameOk_any f.col W hsm.1)
              have HKb := Lib.hid (fun W => l00In_any f.op 1 4 W)
              have HKc := Lib.hid (fun W => l30Value_any f.val W hsm.2)
              clear hsm
              generalize condB f = X at *
              generalize nameB f.col = y0 at *
              generalize inB f.op 1 4 = y1 at *
              generalize valueB f.val = y2 at *
              generalize f.col = cc at *
              generalize f.op = co at *
              generalize f.val = cv at *
              have HBn := Lib.hid (fun o => HBw.out.later (Below.new wr o))
              go_wp2_with fail
              refine (HKa.out _).mono ?_
              rintro e w1 ⟨rfl, rfl⟩
              cases y0
              · have HE3 : Hid (R = false) := by unfold Hid; rw [hS2.out, HSt.out, HC.out]; rfl
                go_wp2_with fail
                go_ret
                exact ⟨ret_bool HE3.out.symm, HBn.out _⟩
              go_wp2_with fail
              refine (HKb.out _).mono ?_
              rintro e w1 ⟨rfl, rfl⟩
              cases y1
              · have HE3 : Hid (R = false) := by unfold Hid; rw [hS2.out, HSt.out, HC.out]; rfl
                go_wp2_with fail
                go_ret
                exact ⟨ret_bool HE3.out.symm, HBn.out _⟩
              go_wp2_with fail
              refine (HKc.out _).mono ?_
              rintro e w1 ⟨rfl, rfl⟩
              cases y2
              · have HE3 : Hid (R = false) := by unfold Hid; rw [hS2.out, HSt.out, HC.out]; rfl
                go_wp2_with fail
                go_ret
                exact ⟨ret_bool HE3.out.symm, HBn.out _⟩
              have HE3 : Hid (R = (wher.drop (j + 1)).all condB) := by unfold Hid; rw [hS2.out, HSt.out, HC.out]; rfl
              have HB1 := Lib.hid (fun o => HB.out.trans ((Below.new wr o).mono (by omega)))
              go_wp2_with fail
              go_roundw
              case rel => exact ⟨j + 1, by omega, by go_num, HB1.out _, HE3.out⟩
              case measure => simp [intOf]; omega
            · have HE3 : Hid (R = true) := by unfold Hid; rw [hS2.out, List.drop_of_length_le (by rw [HS2.out.1]; omega)]; rfl
              go_wp2_with fail
              go_ret
              exact ⟨ret_bool HE3.out.symm, HBw.out⟩
end Go.Proofs.YtalpafaflgddpaaGreatDoor
