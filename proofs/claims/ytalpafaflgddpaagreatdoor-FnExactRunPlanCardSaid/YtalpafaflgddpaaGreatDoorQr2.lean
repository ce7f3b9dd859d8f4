/-
  Queries of the reference: what l30Fits computes.
-/
import Derived.Test.YtalpafaflgddpaaGreatDoorQr1
namespace Go.Proofs.YtalpafaflgddpaaGreatDoor
open Go.RowKit

def inP (l : List ByteArray) (x : ByteArray) : Bool := decide (0 ≤ placeI l x)
def fitsB (b : TableD) (q : QueryD) : Bool := tabB b && (queryB q && (decide (q.table = b.name) && ((decide (q.order = ⟨#[]⟩) || inP b.cols q.order) && (q.cols.all (inP b.cols) && q.wher.all fun c => inP b.cols c.col))))
theorem all_stepS (p : ByteArray → Bool) (l : List ByteArray) (k : Nat) (h : k < l.length) : (l.drop k).all p = (p (l.getD k ByteArray.empty) && (l.drop (k + 1)).all p) := by
  rw [List.drop_eq_getElem_cons h, List.all_cons, List.getD_eq_getElem?_getD, List.getElem?_eq_getElem h]; rfl

set_option maxRecDepth 100000 in
set_option maxHeartbeats 4000000 in
theorem l30Fits_any (b0 b1 b2 b3 c0 c1 c2 c3 c4 c5 : Value) (b : TableD) (d : QueryD) (w : World) (hb : TableR w w.heap.size b0 b1 b2 b3 b) (h : QueryR w w.heap.size c0 c1 c2 c3 c4 c5 d) (hbs : b.small) (hs : d.small) :
    Calls Tryz.prog 51 #[.agg #[b0, b1, b2, b3], .agg #[c0, c1, c2, c3, c4, c5]] w fun e w' => e = .returned (.bool (fitsB b d)) ∧ Below w.heap.size w w' := by
  have HKT := Lib.hid (fun W (hW : Below w.heap.size w W) => l29Ok_any b0 b1 b2 b3 b W (hb.later hW) hbs)
  have HKQ := Lib.hid (fun W (hW : Below w.heap.size w W) => specQueryOk_any c0 c1 c2 c3 c4 c5 d W (h.later hW) hs)
  have HR : Hid (fitsB b d = (tabB b && (queryB d && (decide (d.table = b.name) && ((decide (d.order = ⟨#[]⟩) || inP b.cols d.order) && (d.cols.all (inP b.cols) && d.wher.all fun c => inP b.cols c.col)))))) := rfl
  obtain ⟨rfl, rfl, ⟨A2, n2, p2, rfl, s2, k2⟩, ⟨A3, n3, p3, rfl, s3, k3⟩⟩ := hb
  obtain ⟨rfl, ⟨B1, m1, q1, rfl, t1, l1⟩, ⟨B2, m2, q2, rfl, t2, l2⟩, rfl, rfl, rfl⟩ := h
  have hn2 : n2 ≤ 1048576 := by rw [← s2.1]; exact hbs.2.2.1.1
  have hm1 : m1 ≤ 1048576 := by rw [← t1.1]; exact hs.2.1.1
  have hm2 : m2 ≤ 1048576 := by rw [← t2.1]; exact hs.2.2.1.1
  have HS2 := Lib.hid s2
  have HT1 := Lib.hid t1
  have HT2 := Lib.hid t2
  clear s2 s3 t1 t2 hs hbs
  have HKO := Lib.hid (fun W (hW : Below w.heap.size w W) => l29Place_any A2 n2 p2 b.cols d.order W (HS2.out.later hW) hn2)
  have HO : Hid (inP b.cols d.order = decide (0 ≤ placeI b.cols d.order)) := rfl
  have hbo := placeI_bd b.cols d.order
  rw [HS2.out.1] at hbo
  generalize fitsB b d = R at *
  generalize tabB b = x0 at *
  generalize queryB d = x1 at *
  generalize inP b.cols d.order = xo at *
  generalize placeI b.cols d.order = yo at *
  generalize b.name = nm at *
  generalize b.glob = gl at *
  generalize b.cols = bc at *
  generalize d.table = tb at *
  generalize d.order = od at *
  generalize d.desc = ds at *
  generalize d.limit = lm at *
  generalize d.cols = cols at *
  generalize d.wher = wher at *
  have HB0 := Lib.hid ((Below.new w (.cells #[.string nm, .string gl, .slice A2 n2 p2, .slice A3 n3 p3] 43)).later (Below.new _ (.cells #[.string tb, .slice B1 m1 q1, .slice B2 m2 q2, .string od, .bool ds, .int .i64 lm] 47)))
  go_enter Tryz.func51, Tryz.ntmps51
  go_wp2_with fail
  refine (HKT.out _ HB0.out).mono ?_
  rintro e w1 ⟨rfl, hb1⟩
  have HB1 := Lib.hid (HB0.out.later hb1)
  have px := (Blk.later (heap_two0 w _ _) hb1 (by simp; omega)).cell
  have py := (Blk.later (heap_two1 w _ _) hb1 (by simp)).cell
  have hz1 : w.heap.size + 1 < w1.heap.size := by have := hb1.size; simp at this; omega
  cases x0
  · have HE : Hid (R = false) := by unfold Hid; rw [HR.out]; rfl
    clear hb1
    go_wp2_with fail
    go_ret
    exact ⟨ret_bool HE.out.symm, HB1.out⟩
  have HBB := Lib.hid hb1
  clear hb1
  go_wp2_with fail
  refine (HKQ.out _ HB1.out).mono ?_
  rintro e w2 ⟨rfl, hb2'⟩
  have hb2 := HBB.out.trans (hb2'.mono (by simp; omega))
  have HB2 := Lib.hid (HB1.out.later hb2')
  clear px py hb2'
  have px := (Blk.later (heap_two0 w _ _) hb2 (by simp; omega)).cell
  have py := (Blk.later (heap_two1 w _ _) hb2 (by simp)).cell
  have hz2 : w.heap.size + 1 < w2.heap.size := by have := hb2.size; simp at this; omega
  have HBB2 := Lib.hid hb2
  clear hb2
  cases x1
  · have HE : Hid (R = false) := by unfold Hid; rw [HR.out]; rfl
    go_wp2_with fail
    go_ret
    exact ⟨ret_bool HE.out.symm, HB2.out⟩
  by_cases hnm : tb = nm
  case neg =>
    have HE : Hid (R = false) := by unfold Hid; rw [HR.out, decide_eq_false hnm]; rfl
    have hbn := str_bne hnm
    have hbe := str_beq hnm
    clear hnm
    go_wp2_with fail
    go_ret
    exact ⟨ret_bool HE.out.symm, HB2.out⟩
  subst hnm
  have HR1 : Hid (R = ((decide (od = ⟨#[]⟩) || xo) && (cols.all (inP bc) && wher.all fun c => inP bc c.col))) := by unfold Hid; rw [HR.out]; simp
  clear HR
  have HEnd : Hid (∀ (W : World), Below (w.heap.size + 1 + 1) ((w.alloc (.cells #[.string tb, .string gl, .slice A2 n2 p2, .slice A3 n3 p3] 43)).alloc (.cells #[.string tb, .slice B1 m1 q1, .slice B2 m2 q2, .string od, .bool ds, .int .i64 lm] 47)) W → Below w.heap.size w W) := fun W hW => HB0.out.trans (hW.mono (by omega))
  have HSt : Hid (Below (w.heap.size + 1 + 1) ((w.alloc (.cells #[.string tb, .string gl, .slice A2 n2 p2, .slice A3 n3 p3] 43)).alloc (.cells #[.string tb, .slice B1 m1 q1, .slice B2 m2 q2, .string od, .bool ds, .int .i64 lm] 47)) w2) := by
    have := HBB2.out
    simp only [World.size_alloc] at this
    exact this
  by_cases ho : od = ⟨#[]⟩
  · subst ho
    have HE : Hid (R = (cols.all (inP bc) && wher.all fun c => inP bc c.col)) := by unfold Hid; rw [HR1.out]; rfl
    clear HR1
    go_wp2_with fail
    go_loopw [5] (fun i wr => ∃ (k : Nat), k ≤ m1 ∧ i = .int .i64 k ∧ Below (w.heap.size + 1 + 1) ((w.alloc (.cells #[.string tb, .string gl, .slice A2 n2 p2, .slice A3 n3 p3] 43)).alloc (.cells #[.string tb, .slice B1 m1 q1, .slice B2 m2 q2, .string ⟨#[]⟩, .bool ds, .int .i64 lm] 47)) wr ∧ Hid (R = ((cols.drop k).all (inP bc) && wher.all fun c => inP bc c.col))) (fun i _ => m1 - (intOf i).toNat)
    case atStart => exact ⟨0, Nat.zero_le _, rfl, HSt.out, HE.out⟩
    case round =>
      obtain ⟨k, hk, rfl, hb, hS⟩ := hrel
      clear px py
      have px := (Blk.later (heap_two0 w _ _) hb (by omega)).cell
      have py := (Blk.later (heap_two1 w _ _) hb (by omega)).cell
      have hz3 : w.heap.size + 1 < wr.heap.size := by have := hb.size; simp at this; omega
      have HBw := Lib.hid (HEnd.out _ hb)
      have HBk := Lib.hid hb
      clear hb
      by_cases hlt : k < m1
      · obtain ⟨b, o, rfl, hbl, hcell⟩ := (HT1.out.later HBw.out).2 (by omega)
        have hck := hcell k hlt
        clear hcell
        have hl : k < cols.length := by rw [HT1.out.1]; exact hlt
        have HStp := Lib.hid (all_stepS (inP bc) cols k hl)
        have HKp := Lib.hid (fun W (hW : Below w.heap.size w W) => l29Place_any A2 n2 p2 bc (cols.getD k ByteArray.empty) W (HS2.out.later hW) hn2)
        have hbd := placeI_bd bc (cols.getD k ByteArray.empty)
        rw [HS2.out.1] at hbd
        have HI : Hid (inP bc (cols.getD k ByteArray.empty) = decide (0 ≤ placeI bc (cols.getD k ByteArray.empty))) := rfl
        have i1 : (k : Int) < (m1 : Int) := by omega
        have x2 := px 2
        have y1 := py 1
        simp at x2 y1
        clear hl
        generalize inP bc (cols.getD k ByteArray.empty) = xx at *
        generalize cols.getD k ByteArray.empty = s at *
        generalize placeI bc s = y at *
        go_wp2_with fail
        go_quiet (first | (go_at_call 84; refine quiet_same (HKp.out _ (by exact below_drewN HBw.out _))))
        by_cases hy : y < 0
        · have HE2 : Hid (R = false) := by unfold Hid; rw [hS.out, HStp.out, HI.out, decide_eq_false (show ¬ 0 ≤ y by omega)]; rfl
          go_wp2_with fail
          go_ret
          exact ⟨ret_bool HE2.out.symm, below_drewN HBw.out _⟩
        · have HE2 : Hid (R = ((cols.drop (k + 1)).all (inP bc) && wher.all fun c => inP bc c.col)) := by unfold Hid; rw [hS.out, HStp.out, HI.out, decide_eq_true (show 0 ≤ y by omega)]; rfl
          go_wp2_with fail
          go_roundw
          case rel => exact ⟨k + 1, by omega, by go_num, below_drewN HBk.out _, HE2.out⟩
          case measure => simp [intOf]; omega
      · have HE2 : Hid (R = (wher.drop 0).all fun c => inP bc c.col) := by unfold Hid; rw [hS.out, List.drop_of_length_le (by rw [HT1.out.1]; omega)]; rfl
        clear hS HE
        go_wp2_with fail
        go_loopw [6] (fun i wq => ∃ (j : Nat), j ≤ m2 ∧ i = .int .i64 j ∧ Below (w.heap.size + 1 + 1) ((w.alloc (.cells #[.string tb, .string gl, .slice A2 n2 p2, .slice A3 n3 p3] 43)).alloc (.cells #[.string tb, .slice B1 m1 q1, .slice B2 m2 q2, .string ⟨#[]⟩, .bool ds, .int .i64 lm] 47)) wq ∧ Hid (R = (wher.drop j).all fun c => inP bc c.col)) (fun i _ => m2 - (intOf i).toNat)
        case atStart => exact ⟨0, Nat.zero_le _, rfl, HBk.out, HE2.out⟩
        case round =>
          obtain ⟨j, hj, rfl, hb, hS2⟩ := hrel
          clear px py HBw HBk hz3
          have px := (Blk.later (heap_two0 w _ _) hb (by omega)).cell
          have py := (Blk.later (heap_two1 w _ _) hb (by omega)).cell
          have hz3 : w.heap.size + 1 < wr.heap.size := by have := hb.size; simp at this; omega
          have HBw := Lib.hid (HEnd.out _ hb)
          have HBk := Lib.hid hb
          clear hb
          by_cases hltj : j < m2
          · obtain ⟨b, o, rfl, hbl, hcell⟩ := (HT2.out.later HBw.out).2 (by omega)
            obtain ⟨c0, c1, c2, k0, k1', k2', hr⟩ := hcell j hltj
            clear hcell
            have hl : j < wher.length := by rw [HT2.out.1]; exact hltj
            have HStp := Lib.hid (all_step (fun c : CondD => inP bc c.col) wher j hl)
            have HKp := Lib.hid (fun W (hW : Below w.heap.size w W) => l29Place_any A2 n2 p2 bc (wher.getD j default).col W (HS2.out.later hW) hn2)
            have hbd := placeI_bd bc (wher.getD j default).col
            rw [HS2.out.1] at hbd
            have HI : Hid (inP bc (wher.getD j default).col = decide (0 ≤ placeI bc (wher.getD j default).col)) := rfl
            have i1 : (j : Int) < (m2 : Int) := by omega
            have x2 := px 2
            have y2 := py 2
            simp at x2 y2
            clear hl
            generalize wher.getD j default = f at *
            obtain ⟨e0, e1, e2⟩ := hr
            subst e0 e1 e2
            generalize inP bc f.col = xx at *
            generalize f.col = s at *
            generalize placeI bc s = y at *
            go_wp2_with fail
            go_quiet (first | (go_at_call 84; refine quiet_same (HKp.out _ (by exact below_drewN HBw.out _))))
            by_cases hy : y < 0
            · have HE3 : Hid (R = false) := by unfold Hid; rw [hS2.out, HStp.out, HI.out, decide_eq_false (show ¬ 0 ≤ y by omega)]; rfl
              go_wp2_with fail
              go_ret
              exact ⟨ret_bool HE3.out.symm, below_drewN HBw.out _⟩
            · have HE3 : Hid (R = (wher.drop (j + 1)).all fun c => inP bc c.col) := by unfold Hid; rw [hS2.out, HStp.out, HI.out, decide_eq_true (show 0 ≤ y by omega)]; rfl
              go_wp2_with fail
              go_roundw
              case rel => exact ⟨j + 1, by omega, by go_num, below_drewN HBk.out _, HE3.out⟩
              case measure => simp [intOf]; omega
          · have HE3 : Hid (R = true) := by unfold Hid; rw [hS2.out, List.drop_of_length_le (by rw [HT2.out.1]; omega)]; rfl
            go_wp2_with fail
            go_ret
            exact ⟨ret_bool HE3.out.symm, HBw.out⟩
  · have hbe := ne_empty ho
    have hbe2 := str_beq ho
    have hbn := str_bne ho
    have HO2 : Hid (decide (od = ⟨#[]⟩) = false) := decide_eq_false ho
    clear ho
    go_wp2_with fail
    refine (HKO.out _ HB2.out).mono ?_
    rintro e w3 ⟨rfl, rfl⟩
    by_cases hy : yo < 0
    · have HE : Hid (R = false) := by unfold Hid; rw [HR1.out, HO2.out, HO.out, decide_eq_false (show ¬ 0 ≤ yo by omega)]; rfl
      go_wp2_with fail
      go_ret
      exact ⟨ret_bool HE.out.symm, HB2.out⟩
    have HE : Hid (R = (cols.all (inP bc) && wher.all fun c => inP bc c.col)) := by unfold Hid; rw [HR1.out, HO.out, decide_eq_true (show 0 ≤ yo by omega)]; simp
    clear HR1
    go_wp2_with fail
    go_loopw [5] (fun i wr => ∃ (k : Nat), k ≤ m1 ∧ i = .int .i64 k ∧ Below (w.heap.size + 1 + 1) ((w.alloc (.cells #[.string tb, .string gl, .slice A2 n2 p2, .slice A3 n3 p3] 43)).alloc (.cells #[.string tb, .slice B1 m1 q1, .slice B2 m2 q2, .string od, .bool ds, .int .i64 lm] 47)) wr ∧ Hid (R = ((cols.drop k).all (inP bc) && wher.all fun c => inP bc c.col))) (fun i _ => m1 - (intOf i).toNat)
    case atStart => exact ⟨0, Nat.zero_le _, rfl, HSt.out, HE.out⟩
    case round =>
      obtain ⟨k, hk, rfl, hb, hS⟩ := hrel
      clear px py
      have px := (Blk.later (heap_two0 w _ _) hb (by omega)).cell
      have py := (Blk.later (heap_two1 w _ _) hb (by omega)).cell
      have hz3 : w.heap.size + 1 < wr.heap.size := by have := hb.size; simp at this; omega
      have HBw := Lib.hid (HEnd.out _ hb)
      have HBk := Lib.hid hb
      clear hb
      by_cases hlt : k < m1
      · obtain ⟨b, o, rfl, hbl, hcell⟩ := (HT1.out.later HBw.out).2 (by omega)
        have hck := hcell k hlt
        clear hcell
        have hl : k < cols.length := by rw [HT1.out.1]; exact hlt
        have HStp := Lib.hid (all_stepS (inP bc) cols k hl)
        have HKp := Lib.hid (fun W (hW : Below w.heap.size w W) => l29Place_any A2 n2 p2 bc (cols.getD k ByteArray.empty) W (HS2.out.later hW) hn2)
        have hbd := placeI_bd bc (cols.getD k ByteArray.empty)
        rw [HS2.out.1] at hbd
        have HI : Hid (inP bc (cols.getD k ByteArray.empty) = decide (0 ≤ placeI bc (cols.getD k ByteArray.empty))) := rfl
        have i1 : (k : Int) < (m1 : Int) := by omega
        have x2 := px 2
        have y1 := py 1
        simp at x2 y1
        clear hl
        generalize inP bc (cols.getD k ByteArray.empty) = xx at *
        generalize cols.getD k ByteArray.empty = s at *
        generalize placeI bc s = y at *
        go_wp2_with fail
        go_quiet (first | (go_at_call 84; refine quiet_same (HKp.out _ (by exact below_drewN HBw.out _))))
        by_cases hy : y < 0
        · have HE2 : Hid (R = false) := by unfold Hid; rw [hS.out, HStp.out, HI.out, decide_eq_false (show ¬ 0 ≤ y by omega)]; rfl
          go_wp2_with fail
          go_ret
          exact ⟨ret_bool HE2.out.symm, below_drewN HBw.out _⟩
        · have HE2 : Hid (R = ((cols.drop (k + 1)).all (inP bc) && wher.all fun c => inP bc c.col)) := by unfold Hid; rw [hS.out, HStp.out, HI.out, decide_eq_true (show 0 ≤ y by omega)]; rfl
          go_wp2_with fail
          go_roundw
          case rel => exact ⟨k + 1, by omega, by go_num, below_drewN HBk.out _, HE2.out⟩
          case measure => simp [intOf]; omega
      · have HE2 : Hid (R = (wher.drop 0).all fun c => inP bc c.col) := by unfold Hid; rw [hS.out, List.drop_of_length_le (by rw [HT1.out.1]; omega)]; rfl
        clear hS HE
        go_wp2_with fail
        go_loopw [6] (fun i wq => ∃ (j : Nat), j ≤ m2 ∧ i = .int .i64 j ∧ Below (w.heap.size + 1 + 1) ((w.alloc (.cells #[.string tb, .string gl, .slice A2 n2 p2, .slice A3 n3 p3] 43)).alloc (.cells #[.string tb, .slice B1 m1 q1, .slice B2 m2 q2, .string od, .bool ds, .int .i64 lm] 47)) wq ∧ Hid (R = (wher.drop j).all fun c => inP bc c.col)) (fun i _ => m2 - (intOf i).toNat)
        case atStart => exact ⟨0, Nat.zero_le _, rfl, HBk.out, HE2.out⟩
        case round =>
          obtain ⟨j, hj, rfl, hb, hS2⟩ := hrel
          clear px py HBw HBk hz3
          have px := (Blk.later (heap_two0 w _ _) hb (by omega)).cell
          have py := (Blk.later (heap_two1 w _ _) hb (by omega)).cell
          have hz3 : w.heap.size + 1 < wr.heap.size := by have := hb.size; simp at this; omega
          have HBw := Lib.hid (HEnd.out _ hb)
          have HBk := Lib.hid hb
          clear hb
          by_cases hltj : j < m2
          · obtain ⟨b, o, rfl, hbl, hcell⟩ := (HT2.out.later HBw.out).2 (by omega)
            obtain ⟨c0, c1, c2, k0, k1', k2', hr⟩ := hcell j hltj
            clear hcell
            have hl : j < wher.length := by rw [HT2.out.1]; exact hltj
            have HStp := Lib.hid (all_step (fun c : CondD => inP bc c.col) wher j hl)
            have HKp := Lib.hid (fun W (hW : Below w.heap.size w W) => l29Place_any A2 n2 p2 bc (wher.getD j default).col W (HS2.out.later hW) hn2)
            have hbd := placeI_bd bc (wher.getD j default).col
            rw [HS2.out.1] at hbd
            have HI : Hid (inP bc (wher.getD j default).col = decide (0 ≤ placeI bc (wher.getD j default).col)) := rfl
            have i1 : (j : Int) < (m2 : Int) := by omega
            have x2 := px 2
            have y2 := py 2
            simp at x2 y2
            clear hl
            generalize wher.getD j default = f at *
            obtain ⟨e0, e1, e2⟩ := hr
            subst e0 e1 e2
            generalize inP bc f.col = xx at *
            generalize f.col = s at *
            generalize placeI bc s = y at *
            go_wp2_with fail
            go_quiet (first | (go_at_call 84; refine quiet_same (HKp.out _ (by exact below_drewN HBw.out _))))
            by_cases hy : y < 0
            · have HE3 : Hid (R = false) := by unfold Hid; rw [hS2.out, HStp.out, HI.out, decide_eq_false (show ¬ 0 ≤ y by omega)]; rfl
              go_wp2_with fail
              go_ret
              exact ⟨ret_bool HE3.out.symm, below_drewN HBw.out _⟩
            · have HE3 : Hid (R = (wher.drop (j + 1)).all fun c => inP bc c.col) := by unfold Hid; rw [hS2.out, HStp.out, HI.out, decide_eq_true (show 0 ≤ y by omega)]; rfl
              go_wp2_with fail
              go_roundw
              case rel => exact ⟨j + 1, by omega, by go_num, below_drewN HBk.out _, HE3.out⟩
              case measure => simp [intOf]; omega
          · have HE3 : Hid (R = true) := by unfold Hid; rw [hS2.out, List.drop_of_length_le (by rw [HT2.out.1]; omega)]; rfl
            go_wp2_with fail
            go_ret
            exact ⟨ret_bool HE3.out.symm, HBw.out⟩
end Go.Proofs.YtalpafaflgddpaaGreatDoor
