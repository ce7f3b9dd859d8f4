/-
  Plans of the reference: what l30PlanFits and PlanFits compute. (Printed by gen_qr3.py.)
-/
import Derived.Test.YtalpafaflgddpaaGreatDoorQr2
import Derived.Test.YtalpafaflgddpaaGreatDoorDtTo
namespace Go.Proofs.YtalpafaflgddpaaGreatDoor
open Go.RowKit

def hitP (p : PlanD) (c : CondD) : Bool := decide (c.op = 1) && (decide (c.col = p.col) && (decide (c.val = p.val) && decide (p.val ≠ ⟨#[]⟩)))
def planB (b : TableD) (q : QueryD) (p : PlanD) : Bool :=
  if p.kind = 3 then decide (p.col = ⟨#[]⟩) && decide (p.val = ⟨#[]⟩)
  else if p.kind = 1 then decide (p.col = b.cols.getD 0 ByteArray.empty) && q.wher.any (hitP p)
  else if p.kind = 2 then inP b.idx p.col && q.wher.any (hitP p)
  else false
theorem any_stepD {α : Type} [Inhabited α] (p : α → Bool) (l : List α) (k : Nat) (h : k < l.length) : (l.drop k).any p = (p (l.getD k default) || (l.drop (k + 1)).any p) := by
  rw [List.drop_eq_getElem_cons h, List.any_cons, List.getD_eq_getElem?_getD, List.getElem?_eq_getElem h]; rfl
theorem int_beq {a b : Int} (h : a ≠ b) : (a == b) = false := beq_eq_false_iff_ne.2 h

set_option maxRecDepth 100000 in
set_option maxHeartbeats 4000000 in
theorem l30PlanFits_any (b0 b1 b2 b3 c0 c1 c2 c3 c4 c5 e0 e1 e2 : Value) (b : TableD) (d : QueryD) (p : PlanD) (w : World) (hb : TableR w w.heap.size b0 b1 b2 b3 b) (h : QueryR w w.heap.size c0 c1 c2 c3 c4 c5 d) (hp : PlanR w w.heap.size e0 e1 e2 p) (hbs : b.small) (hs : d.small) (hpos : 0 < b.cols.length) :
    Calls Tryz.prog 68 #[.agg #[b0, b1, b2, b3], .agg #[c0, c1, c2, c3, c4, c5], .agg #[e0, e1, e2]] w fun e w' => e = .returned (.bool (planB b d p)) ∧ Below w.heap.size w w' := by
  obtain ⟨rfl, rfl, ⟨A2, n2, p2, rfl, s2, k2⟩, ⟨A3, n3, p3, rfl, s3, k3⟩⟩ := hb
  obtain ⟨rfl, ⟨B1, m1, q1, rfl, t1, l1⟩, ⟨B2, m2, q2, rfl, t2, l2⟩, rfl, rfl, rfl⟩ := h
  obtain ⟨rfl, rfl, rfl⟩ := hp
  have hn2 : 0 < n2 := by rw [← s2.1]; exact hpos
  have hn3 : n3 ≤ 1048576 := by rw [← s3.1]; exact hbs.2.2.2.1
  have hm2 : m2 ≤ 1048576 := by rw [← t2.1]; exact hs.2.2.1.1
  obtain ⟨sb, so, e1, hsb, hsc⟩ := s2.2 hn2
  subst e1
  have hck := hsc 0 hn2
  rw [Nat.add_zero] at hck
  have HKI := Lib.hid (fun W (hW : Below w.heap.size w W) => l29Place_any A3 n3 p3 b.idx p.col W (s3.later hW) hn3)
  have HI : Hid (inP b.idx p.col = decide (0 ≤ placeI b.idx p.col)) := rfl
  have hbd := placeI_bd b.idx p.col
  rw [s3.1] at hbd
  have HT2 := Lib.hid t2
  clear hsc s2 s3 t1 t2 hs hbs hpos
  have HR : Hid (planB b d p = if p.kind = 3 then decide (p.col = ⟨#[]⟩) && decide (p.val = ⟨#[]⟩) else if p.kind = 1 then decide (p.col = b.cols.getD 0 ByteArray.empty) && d.wher.any (hitP p) else if p.kind = 2 then inP b.idx p.col && d.wher.any (hitP p) else false) := rfl
  have HP : Hid (∀ c, hitP p c = (decide (c.op = 1) && (decide (c.col = p.col) && (decide (c.val = p.val) && decide (p.val ≠ ⟨#[]⟩))))) := fun _ => rfl
  generalize planB b d p = R at *
  generalize inP b.idx p.col = xi at *
  generalize placeI b.idx p.col = yi at *
  generalize b.name = nm at *
  generalize b.glob = gl at *
  generalize b.cols.getD 0 ByteArray.empty = key at *
  generalize d.table = tb at *
  generalize d.order = od at *
  generalize d.desc = ds at *
  generalize d.limit = lm at *
  generalize d.wher = wher at *
  generalize hitP p = HIT at *
  generalize p.kind = kd at *
  generalize p.col = pc at *
  generalize p.val = pv at *
  have HB0 := Lib.hid (below_new3 w (.cells #[.string nm, .string gl, .slice (some ⟨sb, so, none⟩) n2 p2, .slice A3 n3 p3] 43) (.cells #[.string tb, .slice B1 m1 q1, .slice B2 m2 q2, .string od, .bool ds, .int .i64 lm] 47) (.cells #[.int .i64 kd, .string pc, .string pv] 49))
  have i0 : (0 : Int) < (n2 : Int) := by omega
  have hck3 := (HB0.out.cell (p := ⟨sb, so, none⟩) hsb).trans hck
  have z1 : sb < w.heap.size + 1 := by omega
  have z2 : sb < w.heap.size + 1 + 1 := by omega
  by_cases k3' : kd = 3
  · have HR3 : Hid (R = (decide (pc = ⟨#[]⟩) && decide (pv = ⟨#[]⟩))) := by unfold Hid; rw [HR.out, if_pos k3']
    subst k3'
    by_cases h1 : pc = ⟨#[]⟩
    · by_cases h2 : pv = ⟨#[]⟩
      · have HE : Hid (R = true) := by unfold Hid; rw [HR3.out, decide_eq_true h1, decide_eq_true h2]; rfl
        subst h1 h2
        go_enter Tryz.func68, Tryz.ntmps68
        go_wp2_with fail
        go_ret
        exact ⟨ret_bool HE.out.symm, HB0.out⟩
      · have HE : Hid (R = false) := by unfold Hid; rw [HR3.out, decide_eq_false h2]; simp
        have hbe := str_beq h2
        have hbe3 := ne_empty h2
        subst h1
        clear h2
        go_enter Tryz.func68, Tryz.ntmps68
        go_wp2_with fail
        go_ret
        exact ⟨ret_bool HE.out.symm, HB0.out⟩
    · have HE : Hid (R = false) := by unfold Hid; rw [HR3.out, decide_eq_false h1]; rfl
      have hbe := str_beq h1
      have hbe3 := ne_empty h1
      clear h1
      go_enter Tryz.func68, Tryz.ntmps68
      go_wp2_with fail
      go_ret
      exact ⟨ret_bool HE.out.symm, HB0.out⟩
  by_cases k1' : kd = 1
  · subst k1'
    have HR1 : Hid (R = (decide (pc = key) && wher.any HIT)) := by unfold Hid; rw [HR.out, if_neg (by omega), if_pos rfl]
    clear HR k3'
    go_enter Tryz.func68, Tryz.ntmps68
    go_wp2_with fail
    by_cases hk : pc = key
    case neg =>
      have HE : Hid (R = false) := by unfold Hid; rw [HR1.out, decide_eq_false hk]; rfl
      have hbe := str_bne hk
      have hbe2 := str_beq hk
      clear hk
      go_quiet (fail)
      go_wp2_with fail
      go_ret
      exact ⟨ret_bool HE.out.symm, below_drewN HB0.out _⟩
    subst hk
    have HE : Hid (R = wher.any HIT) := by unfold Hid; rw [HR1.out]; simp
    clear HR1
    go_quiet (fail)
    have HSt : Hid (∀ q, Below (w.heap.size + 1 + 1 + 1) (((w.alloc (.cells #[.string nm, .string gl, .slice (some ⟨sb, so, none⟩) n2 p2, .slice A3 n3 p3] 43)).alloc (.cells #[.string tb, .slice B1 m1 q1, .slice B2 m2 q2, .string od, .bool ds, .int .i64 lm] 47)).alloc (.cells #[.int .i64 1, .string pc, .string pv] 49)) ((((w.alloc (.cells #[.string nm, .string gl, .slice (some ⟨sb, so, none⟩) n2 p2, .slice A3 n3 p3] 43)).alloc (.cells #[.string tb, .slice B1 m1 q1, .slice B2 m2 q2, .string od, .bool ds, .int .i64 lm] 47)).alloc (.cells #[.int .i64 1, .string pc, .string pv] 49)).drewN q)) := fun q => below_drewN (Below.refl _ _) q
    have HEnd : Hid (∀ W, Below (w.heap.size + 1 + 1 + 1) (((w.alloc (.cells #[.string nm, .string gl, .slice (some ⟨sb, so, none⟩) n2 p2, .slice A3 n3 p3] 43)).alloc (.cells #[.string tb, .slice B1 m1 q1, .slice B2 m2 q2, .string od, .bool ds, .int .i64 lm] 47)).alloc (.cells #[.int .i64 1, .string pc, .string pv] 49)) W → Below w.heap.size w W) := fun W hW => HB0.out.trans (hW.mono (by omega))
    go_wp2_with fail
    go_loopw [7] (fun i wr => ∃ (j : Nat), j ≤ m2 ∧ i = .int .i64 j ∧ Below (w.heap.size + 1 + 1 + 1) (((w.alloc (.cells #[.string nm, .string gl, .slice (some ⟨sb, so, none⟩) n2 p2, .slice A3 n3 p3] 43)).alloc (.cells #[.string tb, .slice B1 m1 q1, .slice B2 m2 q2, .string od, .bool ds, .int .i64 lm] 47)).alloc (.cells #[.int .i64 1, .string pc, .string pv] 49)) wr ∧ Hid (R = (wher.drop j).any HIT)) (fun i _ => m2 - (intOf i).toNat)
    case atStart => exact ⟨0, Nat.zero_le _, rfl, HSt.out _, HE.out⟩
    case round =>
      obtain ⟨j, hj, rfl, hb, hS⟩ := hrel
      have py := (Blk.later (heap_new1 w _ _ _) hb (by omega)).cell
      have pz := (Blk.later (heap_new2 w _ _ _) hb (by omega)).cell
      have hz3 : w.heap.size + 1 + 1 < wr.heap.size := by have := hb.size; simp at this; omega
      have HBw := Lib.hid (HEnd.out _ hb)
      have HBk := Lib.hid hb
      have HBn := Lib.hid (fun o => (HEnd.out _ hb).later (Below.new wr o))
      clear hb
      by_cases hlt : j < m2
      · obtain ⟨b, o, rfl, hbl, hcell⟩ := (HT2.out.later HBw.out).2 (by omega)
        obtain ⟨c0, c1, c2, k0, k1', k2', hr⟩ := hcell j hlt
        clear hcell
        have hl : j < wher.length := by rw [HT2.out.1]; exact hlt
        have HStp := Lib.hid (any_stepD HIT wher j hl)
        have HPc := Lib.hid (HP.out (wher.getD j default))
        clear hl
        generalize wher.getD j default = f at *
        obtain ⟨a0, a1, a2⟩ := hr
        subst a0 a1 a2
        generalize HIT f = X at *
        generalize f.col = cc at *
        generalize f.op = co at *
        generalize f.val = cv at *
        by_cases h1 : co = 1
        case neg =>
          have HE3 : Hid (R = (wher.drop (j + 1)).any HIT) := by unfold Hid; rw [hS.out, HStp.out, HPc.out, decide_eq_false h1]; rfl
          have hbe := int_beq h1
          clear h1
          go_wp2_with fail
          go_roundw
          case rel => exact ⟨j + 1, by omega, by go_num, HBk.out.alloc (by omega) _, HE3.out⟩
          case measure => simp [intOf]; omega
        subst h1
        by_cases h2 : cc = pc
        case neg =>
          have HE3 : Hid (R = (wher.drop (j + 1)).any HIT) := by unfold Hid; rw [hS.out, HStp.out, HPc.out, decide_eq_false h2]; simp
          have hbe := str_beq h2
          clear h2
          go_wp2_with fail
          go_roundw
          case rel => exact ⟨j + 1, by omega, by go_num, HBk.out.alloc (by omega) _, HE3.out⟩
          case measure => simp [intOf]; omega
        subst h2
        by_cases h3 : cv = pv
        case neg =>
          have HE3 : Hid (R = (wher.drop (j + 1)).any HIT) := by unfold Hid; rw [hS.out, HStp.out, HPc.out, decide_eq_false h3]; simp
          have hbe := str_beq h3
          clear h3
          go_wp2_with fail
          go_roundw
          case rel => exact ⟨j + 1, by omega, by go_num, HBk.out.alloc (by omega) _, HE3.out⟩
          case measure => simp [intOf]; omega
        subst h3
        by_cases h4 : cv = ⟨#[]⟩
        · subst h4
          have HE3 : Hid (R = (wher.drop (j + 1)).any HIT) := by unfold Hid; rw [hS.out, HStp.out, HPc.out, decide_eq_false (show ¬ ((⟨#[]⟩ : ByteArray) ≠ ⟨#[]⟩) from fun h => h rfl)]; simp
          go_wp2_with fail
          go_roundw
          case rel => exact ⟨j + 1, by omega, by go_num, HBk.out.alloc (by omega) _, HE3.out⟩
          case measure => simp [intOf]; omega
        · have HE3 : Hid (R = true) := by unfold Hid; rw [hS.out, HStp.out, HPc.out, decide_eq_true h4]; simp
          have hbe := str_beq h4
          have hbn := str_bne h4
          have hbe3 := ne_empty h4
          clear h4
          go_wp2_with fail
          go_ret
          exact ⟨ret_bool HE3.out.symm, HBn.out _⟩
      · have HE3 : Hid (R = false) := by unfold Hid; rw [hS.out, List.drop_of_length_le (by rw [HT2.out.1]; omega)]; rfl
        go_wp2_with fail
        go_ret
        exact ⟨ret_bool HE3.out.symm, HBw.out⟩
  by_cases k2' : kd = 2
  · subst k2'
    have HR1 : Hid (R = (xi && wher.any HIT)) := by unfold Hid; rw [HR.out, if_neg (by omega), if_neg (by omega), if_pos rfl]
    clear HR k3' k1'
    go_enter Tryz.func68, Tryz.ntmps68
    go_wp2_with fail
    refine (HKI.out _ HB0.out).mono ?_
    rintro e w3 ⟨rfl, rfl⟩
    by_cases hy : yi < 0
    · have HE : Hid (R = false) := by unfold Hid; rw [HR1.out, HI.out, decide_eq_false (show ¬ 0 ≤ yi by omega)]; rfl
      go_wp2_with fail
      go_ret
      exact ⟨ret_bool HE.out.symm, HB0.out⟩
    have HE : Hid (R = wher.any HIT) := by unfold Hid; rw [HR1.out, HI.out, decide_eq_true (show 0 ≤ yi by omega)]; rfl
    clear HR1
    have HSt : Hid (Below (w.heap.size + 1 + 1 + 1) (((w.alloc (.cells #[.string nm, .string gl, .slice (some ⟨sb, so, none⟩) n2 p2, .slice A3 n3 p3] 43)).alloc (.cells #[.string tb, .slice B1 m1 q1, .slice B2 m2 q2, .string od, .bool ds, .int .i64 lm] 47)).alloc (.cells #[.int .i64 2, .string pc, .string pv] 49)) (((w.alloc (.cells #[.string nm, .string gl, .slice (some ⟨sb, so, none⟩) n2 p2, .slice A3 n3 p3] 43)).alloc (.cells #[.string tb, .slice B1 m1 q1, .slice B2 m2 q2, .string od, .bool ds, .int .i64 lm] 47)).alloc (.cells #[.int .i64 2, .string pc, .string pv] 49))) := Below.refl _ _
    have HEnd : Hid (∀ W, Below (w.heap.size + 1 + 1 + 1) (((w.alloc (.cells #[.string nm, .string gl, .slice (some ⟨sb, so, none⟩) n2 p2, .slice A3 n3 p3] 43)).alloc (.cells #[.string tb, .slice B1 m1 q1, .slice B2 m2 q2, .string od, .bool ds, .int .i64 lm] 47)).alloc (.cells #[.int .i64 2, .string pc, .string pv] 49)) W → Below w.heap.size w W) := fun W hW => HB0.out.trans (hW.mono (by omega))
    go_wp2_with fail
    go_loopw [7] (fun i wr => ∃ (j : Nat), j ≤ m2 ∧ i = .int .i64 j ∧ Below (w.heap.size + 1 + 1 + 1) (((w.alloc (.cells #[.string nm, .string gl, .slice (some ⟨sb, so, none⟩) n2 p2, .slice A3 n3 p3] 43)).alloc (.cells #[.string tb, .slice B1 m1 q1, .slice B2 m2 q2, .string od, .bool ds, .int .i64 lm] 47)).alloc (.cells #[.int .i64 2, .string pc, .string pv] 49)) wr ∧ Hid (R = (wher.drop j).any HIT)) (fun i _ => m2 - (intOf i).toNat)
    case atStart => exact ⟨0, Nat.zero_le _, rfl, HSt.out, HE.out⟩
    case round =>
      obtain ⟨j, hj, rfl, hb, hS⟩ := hrel
      have py := (Blk.later (heap_new1 w _ _ _) hb (by omega)).cell
      have pz := (Blk.later (heap_new2 w _ _ _) hb (by omega)).cell
      have hz3 : w.heap.size + 1 + 1 < wr.heap.size := by have := hb.size; simp at this; omega
      have HBw := Lib.hid (HEnd.out _ hb)
      have HBk := Lib.hid hb
      have HBn := Lib.hid (fun o => (HEnd.out _ hb).later (Below.new wr o))
      clear hb
      by_cases hlt : j < m2
      · obtain ⟨b, o, rfl, hbl, hcell⟩ := (HT2.out.later HBw.out).2 (by omega)
        obtain ⟨c0, c1, c2, k0, k1', k2', hr⟩ := hcell j hlt
        clear hcell
        have hl : j < wher.length := by rw [HT2.out.1]; exact hlt
        have HStp := Lib.hid (any_stepD HIT wher j hl)
        have HPc := Lib.hid (HP.out (wher.getD j default))
        clear hl
        generalize wher.getD j default = f at *
        obtain ⟨a0, a1, a2⟩ := hr
        subst a0 a1 a2
        generalize HIT f = X at *
        generalize f.col = cc at *
        generalize f.op = co at *
        generalize f.val = cv at *
        by_cases h1 : co = 1
        case neg =>
          have HE3 : Hid (R = (wher.drop (j + 1)).any HIT) := by unfold Hid; rw [hS.out, HStp.out, HPc.out, decide_eq_false h1]; rfl
          have hbe := int_beq h1
          clear h1
          go_wp2_with fail
          go_roundw
          case rel => exact ⟨j + 1, by omega, by go_num, HBk.out.alloc (by omega) _, HE3.out⟩
          case measure => simp [intOf]; omega
        subst h1
        by_cases h2 : cc = pc
        case neg =>
          have HE3 : Hid (R = (wher.drop (j + 1)).any HIT) := by unfold Hid; rw [hS.out, HStp.out, HPc.out, decide_eq_false h2]; simp
          have hbe := str_beq h2
          clear h2
          go_wp2_with fail
          go_roundw
          case rel => exact ⟨j + 1, by omega, by go_num, HBk.out.alloc (by omega) _, HE3.out⟩
          case measure => simp [intOf]; omega
        subst h2
        by_cases h3 : cv = pv
        case neg =>
          have HE3 : Hid (R = (wher.drop (j + 1)).any HIT) := by unfold Hid; rw [hS.out, HStp.out, HPc.out, decide_eq_false h3]; simp
          have hbe := str_beq h3
          clear h3
          go_wp2_with fail
          go_roundw
          case rel => exact ⟨j + 1, by omega, by go_num, HBk.out.alloc (by omega) _, HE3.out⟩
          case measure => simp [intOf]; omega
        subst h3
        by_cases h4 : cv = ⟨#[]⟩
        · subst h4
          have HE3 : Hid (R = (wher.drop (j + 1)).any HIT) := by unfold Hid; rw [hS.out, HStp.out, HPc.out, decide_eq_false (show ¬ ((⟨#[]⟩ : ByteArray) ≠ ⟨#[]⟩) from fun h => h rfl)]; simp
          go_wp2_with fail
          go_roundw
          case rel => exact ⟨j + 1, by omega, by go_num, HBk.out.alloc (by omega) _, HE3.out⟩
          case measure => simp [intOf]; omega
        · have HE3 : Hid (R = true) := by unfold Hid; rw [hS.out, HStp.out, HPc.out, decide_eq_true h4]; simp
          have hbe := str_beq h4
          have hbn := str_bne h4
          have hbe3 := ne_empty h4
          clear h4
          go_wp2_with fail
          go_ret
          exact ⟨ret_bool HE3.out.symm, HBn.out _⟩
      · have HE3 : Hid (R = false) := by unfold Hid; rw [hS.out, List.drop_of_length_le (by rw [HT2.out.1]; omega)]; rfl
        go_wp2_with fail
        go_ret
        exact ⟨ret_bool HE3.out.symm, HBw.out⟩
  · have HE : Hid (R = false) := by unfold Hid; rw [HR.out, if_neg k3', if_neg k1', if_neg k2']
    have i1 := int_beq k3'
    have i2 := int_beq k1'
    have i3 := int_beq k2'
    clear HR k3' k1' k2'
    go_enter Tryz.func68, Tryz.ntmps68
    go_wp2_with fail
    go_ret
    exact ⟨ret_bool HE.out.symm, HB0.out⟩

def fitsP (b : TableD) (q : QueryD) (p : PlanD) : Bool := fitsB b q && planB b q p
theorem fits_pos {b : TableD} {q : QueryD} (h : fitsB b q = true) : 0 < b.cols.length := by
  unfold fitsB tabB at h
  simp only [Bool.and_eq_true, decide_eq_true_eq] at h
  have := h.1.2.2.1
  omega
set_option maxHeartbeats 2000000 in
theorem specPlanFits_any (b0 b1 b2 b3 c0 c1 c2 c3 c4 c5 e0 e1 e2 : Value) (b : TableD) (d : QueryD) (p : PlanD) (w : World) (hb : TableR w w.heap.size b0 b1 b2 b3 b) (h : QueryR w w.heap.size c0 c1 c2 c3 c4 c5 d) (hp : PlanR w w.heap.size e0 e1 e2 p) (hbs : b.small) (hs : d.small) :
    Calls Tryz.prog 33 #[.agg #[b0, b1, b2, b3], .agg #[c0, c1, c2, c3, c4, c5], .agg #[e0, e1, e2]] w fun e w' => e = .returned (.bool (fitsP b d p)) ∧ Below w.heap.size w w' := by
  have HK1 := Lib.hid (fun W (hW : Below w.heap.size w W) => l30Fits_any b0 b1 b2 b3 c0 c1 c2 c3 c4 c5 b d W (hb.later hW) (h.later hW) hbs hs)
  have HK2 := Lib.hid (fun (hq : fitsB b d = true) W (hW : Below w.heap.size w W) => l30PlanFits_any b0 b1 b2 b3 c0 c1 c2 c3 c4 c5 e0 e1 e2 b d p W (hb.later hW) (h.later hW) (hp.later hW) hbs hs (fits_pos hq))
  have HR : Hid (fitsP b d p = (fitsB b d && planB b d p)) := rfl
  obtain ⟨rfl, rfl, ⟨A2, n2, p2, rfl, s2, k2⟩, ⟨A3, n3, p3, rfl, s3, k3⟩⟩ := hb
  obtain ⟨rfl, ⟨B1, m1, q1, rfl, t1, l1⟩, ⟨B2, m2, q2, rfl, t2, l2⟩, rfl, rfl, rfl⟩ := h
  obtain ⟨rfl, rfl, rfl⟩ := hp
  clear s2 s3 t1 t2 hs hbs
  generalize fitsP b d p = R at *
  generalize planB b d p = y at *
  generalize fitsB b d = x at *
  go_enter Tryz.func33, Tryz.ntmps33
  go_wp2_with fail
  refine (HK1.out _ (by exact below_new3 _ _ _ _)).mono ?_
  rintro e w1 ⟨rfl, hb1⟩
  have px := (Blk.later (heap_new0 w _ _ _) hb1 (by simp; omega)).cell
  have py := (Blk.later (heap_new1 w _ _ _) hb1 (by simp)).cell
  have pz := (Blk.later (heap_new2 w _ _ _) hb1 (by simp)).cell
  have HB := Lib.hid ((below_new3 w _ _ _).later hb1)
  have hz := hb1.size
  simp at hz
  clear hb1
  cases x
  · have HE : Hid (R = false) := by unfold Hid; rw [HR.out]; rfl
    go_wp2_with fail
    go_ret
    exact ⟨ret_bool HE.out.symm, HB.out⟩
  · have HE : Hid (R = y) := by unfold Hid; rw [HR.out]; rfl
    go_wp2_with fail
    refine (HK2.out (by trivial) _ HB.out).mono ?_
    rintro e w2 ⟨rfl, hb2⟩
    have HB2 := Lib.hid (HB.out.later hb2)
    clear hb2
    go_wp2_with fail
    go_ret
    exact ⟨ret_bool HE.out.symm, HB2.out⟩
end Go.Proofs.YtalpafaflgddpaaGreatDoor
