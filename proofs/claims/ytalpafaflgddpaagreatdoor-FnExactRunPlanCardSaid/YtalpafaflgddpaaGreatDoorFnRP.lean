/-
  Plans of the program: slices.Index and slices.Contains at conditions. Plans of the program: what PlanFits computes: just what the reference's does. (Printed by gen_pi7.py.) Index nodes of the program: what keysBy makes; the closure of PlanCost. (Printed by gen_pc2.py.) Plans of the reference: the row with a key. Plans, plainly: the rows with keys, one by one, with the code; what a plan's rows are. Plans of the reference: the rows of a plan (l30Rows). Plans of the reference: what RunPlan answers; plain facts of a plan's rows. (Printed by gen_rp.py.) Plans of the program: the row with a key: just what the reference's l29RowAt makes. Plans of the program, plainly: the rows with keys as planRows goes through them; one and the same as the reference's. (Printed by gen_ry2.py.) Plans of the program: what planRows makes. (Printed by gen_ry2.py.) Plans of the program: what RunPlan answers. (Printed by gen_rp.py.) FnExactRunPlan returns true, and leaves its arguments as they were; over the table of powers of ten. (Printed by gen_fnrp.py.)
-/
import Derived.Test.YtalpafaflgddpaaGreatDoorPi5
import Derived.Test.YtalpafaflgddpaaGreatDoorQr3
import Derived.Test.YtalpafaflgddpaaGreatDoorRw6
import Derived.Test.YtalpafaflgddpaaGreatDoorNd3
import Derived.Test.YtalpafaflgddpaaGreatDoorOrdImpl3
import Derived.Test.YtalpafaflgddpaaGreatDoorFnRQ
import Derived.Deep.RegionHeld3
namespace Go.Proofs.YtalpafaflgddpaaGreatDoor
open Go.RowKit

def sameC (a b : CondD) : Bool := decide (a.col = b.col) && (decide (a.op = b.op) && decide (a.val = b.val))
set_option maxRecDepth 100000 in
set_option maxHeartbeats 2000000 in
theorem IndexCond_any (A : Option Addr) (n c : Nat) (fs : List CondD) (x : CondD) (w : World) (h : Conds w w.heap.size A n fs) (hn : n ≤ 1048576) :
    Calls Tryz.prog 115 #[.slice A n c, .agg #[.string x.col, .int .i64 x.op, .string x.val]] w fun e w' => e = .returned (.int .i64 (idxF (sameC x) fs 0)) ∧ Below w.heap.size w w' := by
  have Hh := Lib.hid h
  have Hlen := Lib.hid h.1
  clear h
  have HB0 := Lib.hid (fun q => below_drewN (Below.new w (.cells #[.string x.col, .int .i64 x.op, .string x.val] 101)) q)
  have HP : Hid (∀ d, sameC x d = (decide (x.col = d.col) && (decide (x.op = d.op) && decide (x.val = d.val)))) := fun _ => rfl
  generalize sameC x = P at *
  generalize x.col = xc at *
  generalize x.op = xo at *
  generalize x.val = xv at *
  go_enter Tryz.func115, Tryz.ntmps115
  go_wp2_with fail
  go_loopw [8] (fun i wr => ∃ k q : Nat, k ≤ n ∧ i = .int .i64 k ∧ wr = (w.alloc (.cells #[.string xc, .int .i64 xo, .string xv] 101)).drewN q ∧ Hid (idxF P fs 0 = idxF P (fs.drop k) k)) (fun i _ => n - (intOf i).toNat)
  case atStart => exact ⟨0, 0, Nat.zero_le _, rfl, rfl, rfl⟩
  case round =>
    obtain ⟨k, q, hk, rfl, rfl, hS⟩ := hrel
    by_cases hlt : k < n
    · obtain ⟨b, o, rfl, hbB, hcell⟩ := Hh.out.2 (by omega)
      obtain ⟨c0, c1, c2, k0, k1, k2, hr⟩ := hcell k hlt
      clear hcell
      have hl : k < fs.length := by rw [Hlen.out]; exact hlt
      have HS := Lib.hid (idxF_step P fs k hl)
      have HPd := Lib.hid (HP.out (fs.getD k default))
      have i1 : (k : Int) < (n : Int) := by omega
      clear hl
      generalize fs.getD k default = f at *
      obtain ⟨a0, a1, a2⟩ := hr
      subst a0 a1 a2
      generalize P f = X at *
      generalize f.col = fc at *
      generalize f.op = fo at *
      generalize f.val = fv at *
      by_cases h1 : xc = fc
      case neg =>
        have HE : Hid (idxF P fs 0 = idxF P (fs.drop (k + 1)) (k + 1)) := by unfold Hid; rw [hS.out, HS.out, HPd.out, decide_eq_false h1]; rfl
        have hbe := str_beq h1
        clear h1
        go_wp2_with fail
        go_quiet (fail)
        go_wp2_with fail
        go_roundw
        case rel => exact ⟨k + 1, _, by omega, by go_num, rfl, HE.out⟩
        case measure => simp [intOf]; omega
      subst h1
      by_cases h2 : xo = fo
      case neg =>
        have HE : Hid (idxF P fs 0 = idxF P (fs.drop (k + 1)) (k + 1)) := by unfold Hid; rw [hS.out, HS.out, HPd.out, decide_eq_false h2]; simp
        have hbe := int_beq h2
        clear h2
        go_wp2_with fail
        go_quiet (fail)
        go_wp2_with fail
        go_roundw
        case rel => exact ⟨k + 1, _, by omega, by go_num, rfl, HE.out⟩
        case measure => simp [intOf]; omega
      subst h2
      by_cases h3 : xv = fv
      case neg =>
        have HE : Hid (idxF P fs 0 = idxF P (fs.drop (k + 1)) (k + 1)) := by unfold Hid; rw [hS.out, HS.out, HPd.out, decide_eq_false h3]; simp
        have hbe := str_beq h3
        clear h3
        go_wp2_with fail
        go_quiet (fail)
        go_wp2_with fail
        go_roundw
        case rel => exact ⟨k + 1, _, by omega, by go_num, rfl, HE.out⟩
        case measure => simp [intOf]; omega
      subst h3
      have HE : Hid (idxF P fs 0 = k) := by unfold Hid; rw [hS.out, HS.out, HPd.out]; simp
      go_wp2_with fail
      go_quiet (fail)
      go_wp2_with fail
      go_ret
      exact ⟨ret_int HE.out.symm, by first | exact HB0.out _ | exact below_drewN (HB0.out _) _⟩
    · have HE : Hid (idxF P fs 0 = -1) := by unfold Hid; rw [hS.out, List.drop_of_length_le (by rw [Hlen.out]; omega)]; rfl
      go_wp2_with fail
      go_ret
      exact ⟨ret_int HE.out.symm, HB0.out _⟩
set_option maxHeartbeats 1000000 in
theorem ContainsCond_any (A : Option Addr) (n c : Nat) (fs : List CondD) (x : CondD) (w : World) (h : Conds w w.heap.size A n fs) (hn : n ≤ 1048576) :
    Calls Tryz.prog 74 #[.slice A n c, .agg #[.string x.col, .int .i64 x.op, .string x.val]] w fun e w' => e = .returned (.bool (fs.any (sameC x))) ∧ Below w.heap.size w w' := by
  have HK := Lib.hid (fun o => IndexCond_any A n c fs x (w.alloc o) (h.later (Below.new _ _)) hn)
  have hE := idxF_any (sameC x) fs 0
  clear h
  generalize fs.any (sameC x) = R at *
  generalize idxF (sameC x) fs 0 = y at *
  have HE := Lib.hid hE
  clear hE
  go_enter Tryz.func74, Tryz.ntmps74
  go_wp2_with fail
  refine (HK.out _).mono ?_
  rintro e w' ⟨rfl, hb1⟩
  have HB1 := Lib.hid ((Below.new w _).later hb1)
  clear hb1
  go_wp2_with fail
  go_ret
  exact ⟨ret_bool HE.out, HB1.out⟩
theorem hit_eq (p : PlanD) (l : List CondD) : (decide (p.val ≠ ⟨#[]⟩) && l.any (sameC ⟨p.col, 1, p.val⟩)) = l.any (hitP p) := by
  induction l with
  | nil => simp
  | cons c r ih =>
    rw [List.any_cons, List.any_cons, ← ih]
    unfold sameC hitP
    by_cases h1 : c.op = 1
    · by_cases h2 : c.col = p.col
      · by_cases h3 : c.val = p.val
        · simp only [h1, h2, h3, decide_true, Bool.true_and]
          cases decide (p.val ≠ ⟨#[]⟩) <;> simp
        · have h3' : ¬ p.val = c.val := fun e => h3 e.symm
          simp [h1, h2, h3, h3']
      · have h2' : ¬ p.col = c.col := fun e => h2 e.symm
        simp [h2, h2']
    · have h1' : ¬ (1 : Int) = c.op := fun e => h1 e.symm
      simp [h1, h1']
end Go.Proofs.YtalpafaflgddpaaGreatDoor

namespace Go.Proofs.YtalpafaflgddpaaGreatDoor
open Go.RowKit

set_option maxRecDepth 100000 in
set_option maxHeartbeats 4000000 in
theorem PlanFits_any (b0 b1 b2 b3 c0 c1 c2 c3 c4 c5 e0 e1 e2 : Value) (b : TableD) (d : QueryD) (p : PlanD) (w : World) (hb : TableR w w.heap.size b0 b1 b2 b3 b) (h : QueryR w w.heap.size c0 c1 c2 c3 c4 c5 d) (hp : PlanR w w.heap.size e0 e1 e2 p) (hbs : b.small) (hs : d.small) :
    Calls Tryz.prog 41 #[.agg #[b0, b1, b2, b3], .agg #[c0, c1, c2, c3, c4, c5], .agg #[e0, e1, e2]] w fun e w' => e = .returned (.bool (fitsP b d p)) ∧ Below w.heap.size w w' := by
  have HK1 := Lib.hid (fun W (hW : Below w.heap.size w W) => QueryFits_any b0 b1 b2 b3 c0 c1 c2 c3 c4 c5 b d W (hb.later hW) (h.later hW) hbs hs)
  have HPos : Hid (fitsB b d = true → 0 < b.cols.length) := fun hq => fits_pos hq
  obtain ⟨rfl, rfl, ⟨A2, n2, p2, rfl, s2, k2⟩, ⟨A3, n3, p3, rfl, s3, k3⟩⟩ := hb
  obtain ⟨rfl, ⟨B1, m1, q1, rfl, t1, l1⟩, ⟨B2, m2, q2, rfl, t2, l2⟩, rfl, rfl, rfl⟩ := h
  obtain ⟨rfl, rfl, rfl⟩ := hp
  have hn3 : n3 ≤ 1048576 := by rw [← s3.1]; exact hbs.2.2.2.1
  have hm2 : m2 ≤ 1048576 := by rw [← t2.1]; exact hs.2.2.1.1
  rw [s2.1] at HPos
  have HS2 := Lib.hid s2
  have HKI := Lib.hid (fun W (hW : Below w.heap.size w W) => ContainsS_any A3 n3 p3 b.idx p.col W (s3.later hW) hn3)
  have HI : Hid (inP b.idx p.col = decide (0 ≤ placeI b.idx p.col)) := rfl
  rw [← HI.out] at HKI
  have HKC := Lib.hid (fun W (hW : Below w.heap.size w W) => ContainsCond_any B2 m2 q2 d.wher ⟨p.col, 1, p.val⟩ W (t2.later hW) hm2)
  dsimp only at HKC
  have HR : Hid (fitsP b d p = (fitsB b d && (if p.kind = 3 then decide (p.col = ⟨#[]⟩) && decide (p.val = ⟨#[]⟩) else if p.kind = 1 then decide (p.col = b.cols.getD 0 ByteArray.empty) && (decide (p.val ≠ ⟨#[]⟩) && d.wher.any (sameC ⟨p.col, 1, p.val⟩)) else if p.kind = 2 then inP b.idx p.col && (decide (p.val ≠ ⟨#[]⟩) && d.wher.any (sameC ⟨p.col, 1, p.val⟩)) else false))) := by
    unfold Hid; rw [hit_eq]; rfl
  clear s2 s3 t1 t2 hs hbs
  generalize fitsP b d p = R at *
  generalize fitsB b d = x at *
  generalize d.wher.any (sameC ⟨p.col, 1, p.val⟩) = X at *
  generalize inP b.idx p.col = xi at *
  generalize b.name = nm at *
  generalize b.glob = gl at *
  generalize b.cols = bc at *
  generalize d.table = tb at *
  generalize d.order = od at *
  generalize d.desc = ds at *
  generalize d.limit = lm at *
  generalize p.kind = kd at *
  generalize p.col = pc at *
  generalize p.val = pv at *
  have HB0 := Lib.hid (below_new3 w (.cells #[.string nm, .string gl, .slice A2 n2 p2, .slice A3 n3 p3] 43) (.cells #[.string tb, .slice B1 m1 q1, .slice B2 m2 q2, .string od, .bool ds, .int .i64 lm] 47) (.cells #[.int .i64 kd, .string pc, .string pv] 49))
  go_enter Tryz.func41, Tryz.ntmps41
  go_wp2_with fail
  refine (HK1.out _ HB0.out).mono ?_
  rintro e w1 ⟨rfl, hb1⟩
  have px := (Blk.later (heap_new0 w _ _ _) hb1 (by simp; omega)).cell
  have py := (Blk.later (heap_new1 w _ _ _) hb1 (by simp)).cell
  have pz := (Blk.later (heap_new2 w _ _ _) hb1 (by simp)).cell
  have HB := Lib.hid (HB0.out.later hb1)
  have hz := hb1.size
  simp at hz
  clear hb1
  cases x
  · have HE : Hid (R = false) := by unfold Hid; rw [HR.out]; rfl
    go_wp2_with fail
    go_ret
    exact ⟨ret_bool HE.out.symm, HB.out⟩
  have hpos := HPos.out (by trivial)
  by_cases k3' : kd = 3
  · have HR3 : Hid (R = (decide (pc = ⟨#[]⟩) && decide (pv = ⟨#[]⟩))) := by unfold Hid; rw [HR.out, if_pos k3']; rfl
    subst k3'
    by_cases h1 : pc = ⟨#[]⟩
    · by_cases h2 : pv = ⟨#[]⟩
      · have HE : Hid (R = true) := by unfold Hid; rw [HR3.out, decide_eq_true h1, decide_eq_true h2]; rfl
        subst h1 h2
        go_wp2_with fail
        go_ret
        exact ⟨ret_bool HE.out.symm, HB.out⟩
      · have HE : Hid (R = false) := by unfold Hid; rw [HR3.out, decide_eq_false h2]; simp
        have hbe := str_beq h2
        have hbe3 := ne_empty h2
        subst h1
        clear h2
        go_wp2_with fail
        go_ret
        exact ⟨ret_bool HE.out.symm, HB.out⟩
    · have HE : Hid (R = false) := by unfold Hid; rw [HR3.out, decide_eq_false h1]; rfl
      have hbe := str_beq h1
      have hbe3 := ne_empty h1
      clear h1
      go_wp2_with fail
      go_ret
      exact ⟨ret_bool HE.out.symm, HB.out⟩
  by_cases k1' : kd = 1
  · subst k1'
    obtain ⟨sb, so, e1, hsb, hsc⟩ := (HS2.out.later HB.out).2 hpos
    subst e1
    have hck := hsc 0 hpos
    rw [Nat.add_zero] at hck
    clear hsc
    have i0 : (0 : Int) < (n2 : Int) := by omega
    have x2 := px 2
    have z1 := pz 1
    simp at x2 z1
    generalize bc.getD 0 ByteArray.empty = key at *
    have HR1 : Hid (R = (decide (pc = key) && (decide (pv ≠ ⟨#[]⟩) && X))) := by unfold Hid; rw [HR.out, if_neg (by omega), if_pos rfl]; rfl
    clear HR k3'
    go_wp2_with fail
    by_cases hk : pc = key
    case neg =>
      have HE : Hid (R = false) := by unfold Hid; rw [HR1.out, decide_eq_false hk]; rfl
      have hbe := str_bne hk
      have hbe2 := str_beq hk
      clear hk
      go_quiet (fail)
      go_wp2_with fail
      go_ret
      exact ⟨ret_bool HE.out.symm, below_drewN HB.out _⟩
    subst hk
    have HE : Hid (R = (decide (pv ≠ ⟨#[]⟩) && X)) := by unfold Hid; rw [HR1.out]; simp
    clear HR1
    go_quiet (fail)
    by_cases h4 : pv = ⟨#[]⟩
    · have HE2 : Hid (R = false) := by unfold Hid; rw [HE.out, decide_eq_false (fun h => h h4)]; rfl
      subst h4
      go_wp2_with fail
      go_ret
      exact ⟨ret_bool HE2.out.symm, (below_drewN HB.out _)⟩
    · have HE2 : Hid (R = X) := by unfold Hid; rw [HE.out, decide_eq_true h4]; rfl
      have hbe := str_beq h4
      have hbn := str_bne h4
      have hbe3 := ne_empty h4
      clear h4
      go_wp2_with fail
      refine (HKC.out _ (below_drewN HB.out _)).mono ?_
      rintro e w5 ⟨rfl, hb5⟩
      have HB5 := Lib.hid (Below.later (below_drewN HB.out _) hb5)
      clear hb5
      go_wp2_with fail
      go_ret
      exact ⟨ret_bool HE2.out.symm, HB5.out⟩
  by_cases k2' : kd = 2
  · subst k2'
    have HR1 : Hid (R = (xi && (decide (pv ≠ ⟨#[]⟩) && X))) := by unfold Hid; rw [HR.out, if_neg (by omega), if_neg (by omega), if_pos rfl]; rfl
    clear HR k3' k1'
    go_wp2_with fail
    refine (HKI.out _ HB.out).mono ?_
    rintro e w3 ⟨rfl, rfl⟩
    cases xi
    · have HE : Hid (R = false) := by unfold Hid; rw [HR1.out]; rfl
      go_wp2_with fail
      go_ret
      exact ⟨ret_bool HE.out.symm, HB.out⟩
    have HE : Hid (R = (decide (pv ≠ ⟨#[]⟩) && X)) := by unfold Hid; rw [HR1.out]; rfl
    clear HR1
    by_cases h4 : pv = ⟨#[]⟩
    · have HE2 : Hid (R = false) := by unfold Hid; rw [HE.out, decide_eq_false (fun h => h h4)]; rfl
      subst h4
      go_wp2_with fail
      go_ret
      exact ⟨ret_bool HE2.out.symm, HB.out⟩
    · have HE2 : Hid (R = X) := by unfold Hid; rw [HE.out, decide_eq_true h4]; rfl
      have hbe := str_beq h4
      have hbn := str_bne h4
      have hbe3 := ne_empty h4
      clear h4
      go_wp2_with fail
      refine (HKC.out _ HB.out).mono ?_
      rintro e w5 ⟨rfl, hb5⟩
      have HB5 := Lib.hid (Below.later HB.out hb5)
      clear hb5
      go_wp2_with fail
      go_ret
      exact ⟨ret_bool HE2.out.symm, HB5.out⟩
  · have HE : Hid (R = false) := by unfold Hid; rw [HR.out, if_neg k3', if_neg k1', if_neg k2']; rfl
    have i1 := int_beq k3'
    have i2 := int_beq k1'
    have i3 := int_beq k2'
    clear HR k3' k1' k2'
    go_wp2_with fail
    go_ret
    exact ⟨ret_bool HE.out.symm, HB.out⟩
end Go.Proofs.YtalpafaflgddpaaGreatDoor

namespace Go.Proofs.YtalpafaflgddpaaGreatDoor
open Go.RowKit

set_option maxRecDepth 100000 in
set_option maxHeartbeats 1000000 in
theorem PlanCost1_any (pk : Nat) (c0 c1 c2 kv cv : Value) (pv : ByteArray) (d : NodeD) (w : World) (hk : Blk w pk 49 #[kv, cv, .string pv]) (h : NodeR w w.heap.size c0 c1 c2 d) (h2 : d.subs.length = 2) :
    Calls Tryz.prog 44 #[.agg #[c0, c1, c2], .pointer (some ⟨pk, 0, none⟩)] w fun e w' => e = .returned (.bool (!keyP pv d)) ∧ Below w.heap.size w w' := by
  obtain ⟨rfl, ⟨A1, n1, cap1, rfl, hs1, hcap1⟩, rfl⟩ := h
  obtain rfl : n1 = 2 := by rw [← hs1.1]; exact h2
  obtain ⟨sb, so, rfl, hsb, hsc⟩ := hs1.2 (by omega)
  have hck := hsc 1 (by omega)
  have x2 := hk.cell 2
  simp at x2
  have hlt := hk.lt
  have HP : Hid (keyP pv d = decide (d.subs.getD 1 ByteArray.empty = pv)) := rfl
  clear hsc hs1 h2 hk
  have HB0 := Lib.hid (fun o => Below.new w o)
  generalize keyP pv d = R at *
  generalize d.subs.getD 1 ByteArray.empty = s at *
  generalize d.name = nm at *
  generalize d.val = vl at *
  go_enter Tryz.func44, Tryz.ntmps44
  by_cases he : s = pv
  · have HE : Hid ((!R) = false) := by unfold Hid; rw [HP.out, decide_eq_true he]; rfl
    subst he
    go_wp2_with fail
    go_quiet (fail)
    go_wp2_with fail
    go_ret
    exact ⟨ret_bool HE.out.symm, below_drewN (HB0.out _) _⟩
  · have HE : Hid ((!R) = true) := by unfold Hid; rw [HP.out, decide_eq_false he]; rfl
    have hbe := str_beq he
    have hbn := str_bne he
    clear he
    go_wp2_with fail
    go_quiet (fail)
    go_wp2_with fail
    go_ret
    exact ⟨ret_bool HE.out.symm, below_drewN (HB0.out _) _⟩

theorem starts3 (a b c : ByteArray) (ss : List ByteArray) (h : ss.length = 4) : startsB [a, b, c] ss = (decide (ss.getD 0 ByteArray.empty = a) && (decide (ss.getD 1 ByteArray.empty = b) && decide (ss.getD 2 ByteArray.empty = c))) := by
  match ss, h with
  | [s0, s1, s2, s3], _ => simp [startsB, eq_comm]
set_option maxRecDepth 100000 in
set_option maxHeartbeats 4000000 in
theorem keysBy_any (A : Option Addr) (n c : Nat) (b0 b1 b2 b3 : Value) (fs : List NodeD) (b : TableD) (col val : ByteArray) (w : World) (h : Nodes w w.heap.size A n fs) (hb : TableR w w.heap.size b0 b1 b2 b3 b) (hs : smallNs fs) :
    Calls Tryz.prog 46 #[.agg #[.slice A n c], .agg #[b0, b1, b2, b3], .string col, .string val] w fun e w' => ∃ v, e = .returned v ∧ Own.SubO w' w.heap.size v (keysN b.glob col val fs) ∧ Below w.heap.size w w' := by
  obtain ⟨i0, hi, hz0, hz1, hz2⟩ := info_parts infoS
  obtain ⟨rfl, rfl, ⟨A2, n2, p2, rfl, s2, k2⟩, ⟨A3, n3, p3, rfl, s3, k3⟩⟩ := hb
  have Hh := Lib.hid h
  have Hlen := Lib.hid h.1
  have hn : n ≤ 1048576 := by rw [← h.1]; exact hs.1
  clear h hs s2 s3
  have HP : Hid (∀ d, isKeyB b.glob col val d = (decide (d.name = b.glob) && (decide (d.subs.length = 4) && (decide (d.subs.getD 0 ByteArray.empty = ⟨#[105]⟩) && (decide (d.subs.getD 1 ByteArray.empty = col) && decide (d.subs.getD 2 ByteArray.empty = val)))))) := fun _ => rfl
  have HRN : Hid (keysN b.glob col val fs = (fs.filter (isKeyB b.glob col val)).map keyOfN) := rfl
  generalize keysN b.glob col val fs = OUT at *
  generalize isKeyB b.glob col val = P at *
  generalize b.glob = gl at *
  generalize b.name = nm at *
  go_enter Tryz.func46, Tryz.ntmps46
  go_wp2_with fail
  go_loopw [9, 20] (fun v i wr => ∃ (k : Nat), k ≤ n ∧ i = .int .i64 k ∧ wr.ownsRow (w.heap.size + 1 + 1) 9 1 v (((fs.take k).filter P).map keyOfN).length ((((fs.take k).filter P).map keyOfN).map Value.string) ∧ Below (w.heap.size + 1 + 1) ((w.alloc (.cells #[.slice A n c] 41)).alloc (.cells #[.string nm, .string gl, .slice A2 n2 p2, .slice A3 n3 p3] 43)) wr ∧ Blk wr (w.heap.size + 1 + 1 + 1) 9 #[.string ⟨#[105]⟩, .string col, .string val] ∧ v.ownBlock ≠ some (w.heap.size + 1 + 1 + 1)) (fun _ i _ => n - (intOf i).toNat)
  case atStart =>
    refine ⟨0, Nat.zero_le _, rfl, ?_, ((Below.refl _ _).alloc (by first | exact Nat.le_refl _ | (simp; done) | (simp; omega)) _).alloc (by first | exact Nat.le_refl _ | (simp; done) | (simp; omega)) _, heap_last (by simp), by simp [Value.ownBlock]⟩
    exact Own.own_later (by simpa using World.ownsRow_lit (e := 9) (size := 1) ((w.alloc (.cells #[.slice A n c] 41)).alloc (.cells #[.string nm, .string gl, .slice A2 n2 p2, .slice A3 n3 p3] 43)) #[] 0 (Nat.le_refl _) (by omega) rfl) (Below.new _ _)
  case round =>
    obtain ⟨k, hk, rfl, hown, hb, hu, hne⟩ := hrel
    have px := (Blk.later (heap_two0 w _ _) hb (by omega)).cell
    have py := (Blk.later (heap_two1 w _ _) hb (by omega)).cell
    have hz3 : w.heap.size + 1 < wr.heap.size := by have := hu.lt; omega
    have HBk := Lib.hid hb
    have HU := Lib.hid hu
    have HBw := Lib.hid (((Below.new w _).later (Below.new _ _)).trans (hb.mono (by omega)))
    have hml := filter_len P fs k
    have hml2 : (((fs.take k).filter P).map keyOfN).length ≤ k := by rw [List.length_map]; exact hml
    have HO := Lib.hid hown
    clear hb hown hml hu
    by_cases hlt : k < n
    · obtain ⟨bb, o, rfl, hbB, hc'⟩ := (Hh.out.later HBw.out).2 (by omega)
      obtain ⟨d0, d1, d2, j0, j1, j2, hrl⟩ := hc' k hlt
      clear hc'
      have hl1 : k < fs.length := by rw [Hlen.out]; exact hlt
      have HTS := Lib.hid (filter_snoc P fs k hl1)
      have HPd := Lib.hid (HP.out (fs.getD k default))
      have HK : Hid (keyOfN (fs.getD k default) = (fs.getD k default).subs.getD 3 ByteArray.empty) := rfl
      clear hl1
      generalize fs.getD k default = d at *
      obtain ⟨e0, ⟨A1, n1, cap1, e1, hs1, hcap1⟩, e2⟩ := hrl
      subst e0 e1 e2
      have HL1 := Lib.hid hs1.1
      have HS1 := Lib.hid hs1
      clear hs1
      generalize hY : ((fs.take k).filter P).map keyOfN = ys at *
      have HY := Lib.hid hY
      clear hY
      by_cases hnm : d.name = gl
      case neg =>
        have HE : Hid (((fs.take (k + 1)).filter P).map keyOfN = ys) := by unfold Hid; rw [HTS.out, if_neg (by rw [HPd.out]; rw [decide_eq_false hnm]; simp), HY.out]
        have hbe := str_beq hnm
        clear hnm
        go_wp2_with fail
        go_roundw
        case rel =>
          refine ⟨k + 1, by omega, by go_num, ?_, HBk.out.alloc (by omega) _, HU.out.alloc _, hne⟩
          rw [HE.out]; exact Own.own_later HO.out (Below.new _ _)
        case measure => simp [intOf]; omega
      subst hnm
      by_cases hn4 : n1 = 4
      case neg =>
        have HE : Hid (((fs.take (k + 1)).filter P).map keyOfN = ys) := by unfold Hid; rw [HTS.out, if_neg (by rw [HPd.out]; rw [HL1.out, decide_eq_false hn4]; simp), HY.out]
        have hb3 : ((n1 : Int) == 4) = false := by rw [beq_eq_false_iff_ne]; omega
        have hb4 : (n1 == 4) = false := by rw [beq_eq_false_iff_ne]; omega
        clear hn4
        go_wp2_with fail
        go_roundw
        case rel =>
          refine ⟨k + 1, by omega, by go_num, ?_, HBk.out.alloc (by omega) _, HU.out.alloc _, hne⟩
          rw [HE.out]; exact Own.own_later HO.out (Below.new _ _)
        case measure => simp [intOf]; omega
      subst hn4
      have HKb := Lib.hid (fun o => begins_any A1 (some ⟨w.heap.size + 1 + 1 + 1, 0, none⟩) 4 cap1 3 3 d.subs [⟨#[105]⟩, col, val] (wr.alloc o) (HS1.out.later (Below.new _ _)) (Blk.strs (ss := [⟨#[105]⟩, col, val]) (HU.out.alloc o)) (by omega) hcap1)
      have HX := Lib.hid (starts3 ⟨#[105]⟩ col val d.subs HL1.out)
      have HPx : Hid (P d = startsB [⟨#[105]⟩, col, val] d.subs) := by unfold Hid; rw [HPd.out, HX.out, HL1.out]; simp
      obtain ⟨sb, so, e1, hsb, hsc⟩ := HS1.out.2 (by omega)
      subst e1
      have h3 := hsc 3 (by omega)
      clear hsc HX HPd
      generalize startsB [⟨#[105]⟩, col, val] d.subs = x at *
      generalize d.subs.getD 3 ByteArray.empty = t3 at *
      go_wp2_with fail
      refine (HKb.out _).mono ?_
      rintro e w1 ⟨rfl, q, rfl⟩
      cases x
      · have HE : Hid (((fs.take (k + 1)).filter P).map keyOfN = ys) := by unfold Hid; rw [HTS.out, if_neg (by rw [HPx.out]; simp), HY.out]
        go_wp2_with fail
        go_roundw
        case rel =>
          refine ⟨k + 1, by omega, by go_num, ?_, below_drewN (HBk.out.alloc (by omega) _) _, HU.out.alloc _, hne⟩
          rw [HE.out]; exact Own.own_later HO.out (below_drewN (Below.new _ _) q)
        case measure => simp [intOf]; omega
      have HE : Hid (((fs.take (k + 1)).filter P).map keyOfN = ys ++ [t3]) := by unfold Hid; rw [HTS.out, if_pos HPx.out, List.map_append, HY.out, List.map_singleton, HK.out]
      have hrow : Hid (∀ o o', (((wr.alloc o).drewN q).alloc o').ownsRow (w.heap.size + 1 + 1) 9 1 u9 ys.length (ys.map Value.string)) := fun o o' => Own.own_later (w := (wr.alloc o).drewN q) (Own.own_later HO.out (below_drewN (Below.new _ _) q)) (Below.new _ _)
      go_wp2_with (at_builtin; refine wpList_append_own_at _ rfl (.tmp 41) (.tmp 46) 25 rfl (w.heap.size + 1 + 1) 9 i0 _ 1 16 Tryz.underlying25 hi hz0 hz1 hz2 rfl (by decide) _ ys.length _ rfl (hrow.out _ _) ⟨_, 0, none⟩ 1 1 [.string t3] rfl rfl ?c1 ?c2 ?c3 ?c4 ?c5 ?_)
      all_goals try (first | exact cells_atN _ #[.string t3] _ _ (by simp) | (simp [Value.oneCell']; done) | (unfold maxLen; omega) | omega | (show w.heap.size + 1 + 1 ≤ ((wr.alloc _).alloc _).heap.size; have hx := HU.out.lt; simp; omega))
      intro v1 w2 hown1 hg1 _ hob
      have HO3 : Hid (w2.ownsRow (w.heap.size + 1 + 1) 9 1 v1 (((fs.take (k + 1)).filter P).map keyOfN).length ((((fs.take (k + 1)).filter P).map keyOfN).map Value.string)) := by
        unfold Hid
        rw [HE.out, List.length_append, List.length_singleton, List.map_append]
        exact hown1
      have HB3 := Lib.hid (((below_drewN (HBk.out.alloc (by omega) _) q).alloc (by first | omega | (simp; omega)) _).grown hg1 (by first | omega | (simp; omega)) (fun g hg' => ((hrow.out (.cells #[] 0) (.cells #[] 0)).lt g hg').1))
      have HU3 := Lib.hid (Blk.grown ((show Blk ((wr.alloc _).drewN q) _ _ _ from HU.out.alloc _).alloc _) hg1 (fun e => hne e.symm))
      have hne1 : v1.ownBlock ≠ some (w.heap.size + 1 + 1 + 1) := by
        rcases hob with hob | hob
        · rw [hob]; exact hne
        · have hx := HU.out.lt
          rw [hob]
          intro e
          injection e with e
          simp at e
          omega
      clear hown1 hg1 hob
      go_wp2_with fail
      go_roundw
      case rel => exact ⟨k + 1, by omega, by go_num, HO3.out, HB3.out, HU3.out, hne1⟩
      case measure => simp [intOf]; omega
    · obtain rfl : k = n := by omega
      have HE : Hid (((fs.take k).filter P).map keyOfN = OUT) := by unfold Hid; rw [HRN.out, List.take_of_length_le (by rw [Hlen.out]; omega)]
      go_wp2_with fail
      go_ret
      have h1 := HO.out
      rw [HE.out] at h1
      exact ⟨_, rfl, Own.own_base h1 (by omega), HBw.out⟩
end Go.Proofs.YtalpafaflgddpaaGreatDoor

namespace Go.Proofs.YtalpafaflgddpaaGreatDoor
open Go.RowKit
set_option linter.unusedVariables false

/-- The row with a key among row nodes, with the code. -/
def rowAtB (cols : List ByteArray) (ns : List NodeD) (key : ByteArray) : Int × List ByteArray :=
  if atI ns key < 0 then (3, []) else (codeU (unpackB cols key (ns.getD (atI ns key).toNat default).val), (unpackB cols key (ns.getD (atI ns key).toNat default).val).getD [])
def RowAtPost (r : Int × List ByteArray) (w : World) (e : Ending) (w' : World) : Prop := ∃ v, e = .returned (.tuple #[.agg #[v], .int .i64 r.1]) ∧ Own.SubO w' w.heap.size v r.2 ∧ Below w.heap.size w w'

set_option maxRecDepth 100000 in
set_option maxHeartbeats 4000000 in
theorem l29RowAt_any (A : Option Addr) (n c : Nat) (b0 b1 b2 b3 : Value) (fs : List NodeD) (b : TableD) (key : ByteArray) (w : World) (ht : Nodes w w.heap.size A n fs) (hb : TableR w w.heap.size b0 b1 b2 b3 b) (hts : smallNs fs) (htr : treeB fs = true) (hpos : 0 < b.cols.length) (hn5 : b.cols.length ≤ 5) (hk : key.size ≤ 1048576) :
    Calls Tryz.prog 106 #[.agg #[.slice A n c], .agg #[b0, b1, b2, b3], .string key] w (RowAtPost (rowAtB b.cols (rowsN b.glob fs) key) w) := by
  obtain ⟨i0, hi, hz0, hz1, hz2⟩ := info_parts infoRowD
  have HK3 := Lib.hid (fun W (hW : Below w.heap.size w W) => l29Nodes_any A n c b0 b1 b2 b3 fs b W (ht.later hW) (hb.later hW) hts)
  have HKU := Lib.hid (fun W (hW : Below w.heap.size w W) val hv => l29Unpack_any b0 b1 b2 b3 b key val W (hb.later hW) hpos hn5 hk hv)
  have HL := Lib.hid (rows_len (g := b.glob) hts)
  have H2 := Lib.hid (rows_two (g := b.glob) (fs := fs))
  have HV : Hid (∀ d ∈ rowsN b.glob fs, d.val.size ≤ 64) := fun d hd => val_small htr d (rows_mem hd)
  have HBD := Lib.hid (idxF_bd (keyP key) (rowsN b.glob fs) 0)
  have HR : Hid (rowAtB b.cols (rowsN b.glob fs) key = if atI (rowsN b.glob fs) key < 0 then (3, []) else (codeU (unpackB b.cols key ((rowsN b.glob fs).getD (atI (rowsN b.glob fs) key).toNat default).val), (unpackB b.cols key ((rowsN b.glob fs).getD (atI (rowsN b.glob fs) key).toNat default).val).getD [])) := rfl
  obtain ⟨rfl, rfl, ⟨A2, n2, p2, rfl, s2, k2⟩, ⟨A3, n3, p3, rfl, s3, k3⟩⟩ := hb
  clear s2 s3 ht hts htr hpos hn5 hk
  generalize rowAtB b.cols (rowsN b.glob fs) key = R at *
  generalize rowsN b.glob fs = ns at *
  have HAT : Hid (atI ns key = idxF (keyP key) ns 0) := rfl
  generalize hup : unpackB b.cols key = up at *
  clear hup
  generalize b.name = nm at *
  generalize b.glob = gl at *
  have HB0 := Lib.hid (below_new3 w (.cells #[.slice A n c] 41) (.cells #[.string nm, .string gl, .slice A2 n2 p2, .slice A3 n3 p3] 43) (.cells #[.slice none 0 0] 90))
  have HX1 := Lib.hid (heap_new1 w (.cells #[.slice A n c] 41) (.cells #[.string nm, .string gl, .slice A2 n2 p2, .slice A3 n3 p3] 43) (.cells #[.slice none 0 0] 90))
  have HX2 := Lib.hid (heap_new2 w (.cells #[.slice A n c] 41) (.cells #[.string nm, .string gl, .slice A2 n2 p2, .slice A3 n3 p3] 43) (.cells #[.slice none 0 0] 90))
  go_enter Tryz.func106, Tryz.ntmps106
  go_wp2_with fail
  refine (HK3.out _ HB0.out).mono ?_
  rintro e w1 ⟨v, cs, rfl, ho, hc, hb1⟩
  obtain ⟨A4, cap4, rfl, hcap4, hN4⟩ := nodes_of_row ho rfl hc hb1
  have HN4 := Lib.hid hN4
  have HLB : Hid (∀ g, (Value.slice A4 ns.length cap4).ownBlock = some g → w.heap.size + 3 ≤ g) := fun g hg => by have h1 := (ho.lt g hg).1; simpa using h1
  have HB1 := Lib.hid (HB0.out.later hb1)
  have HY1 := Lib.hid (Blk.later HX1.out hb1 (by first | (simp; done) | (simp; omega)))
  have HY2 := Lib.hid (Blk.later HX2.out hb1 (by first | (simp; done) | (simp; omega)))
  clear hb1 ho hc hN4 HX1 HX2 HK3
  go_wp2_with fail
  refine (l29At_any A4 ns.length cap4 ns key _ HN4.out HL.out H2.out).mono ?_
  rintro e w2 ⟨rfl, hb2⟩
  have HN5 := Lib.hid (HN4.out.later hb2)
  have HB2 := Lib.hid (HB1.out.later hb2)
  have HZ1 := Lib.hid (HY1.out.later hb2 HY1.out.lt)
  have HZ2 := Lib.hid (HY2.out.later hb2 HY2.out.lt)
  clear hb2 HN4 HB1 HY1 HY2
  have p1 := HZ1.out.cell
  have p2' := HZ2.out.cell
  have f2 := HZ2.out.frozen
  have z1 := HZ1.out.lt
  have z2 := HZ2.out.lt
  by_cases hneg : atI ns key < 0
  · have HE : Hid (R = (3, [])) := by unfold Hid; rw [HR.out, if_pos hneg]
    clear HR HBD
    generalize atI ns key = ix at *
    go_wp2_with fail
    refine bodyPost_ret (v := .tuple #[.agg #[.slice none 0 0], .int .i64 3]) (by simp [results, Tryz.results106, go_sem, p2']) rfl ?_
    rw [HE.out]
    exact ⟨_, rfl, Own.sub_nil _ _, HB2.out.setCell (by first | (simp; done) | (simp; omega) | (show w.heap.size ≤ _; omega)) _⟩
  · obtain ⟨k, hk⟩ : ∃ k : Nat, atI ns key = (k : Int) := ⟨(atI ns key).toNat, by omega⟩
    have hkl : k < ns.length := by have h1 := HBD.out.2; rw [← HAT.out, hk] at h1; omega
    have HE : Hid (R = (codeU (up (ns.getD k default).val), (up (ns.getD k default).val).getD [])) := by unfold Hid; rw [HR.out, if_neg hneg, hk]; rfl
    have HKK := Lib.hid (fun W (hW : Below w.heap.size w W) => HKU.out W hW (ns.getD k default).val (HV.out _ (getD_memD ns k hkl)))
    obtain ⟨bb, o, rfl, hbB, hcc⟩ := HN5.out.2 (by omega)
    have HBB := Lib.hid (HLB.out bb rfl)
    obtain ⟨c0, c1, c2, k0, k1, k2', hr⟩ := hcc k hkl
    obtain ⟨e0, _, e2⟩ := hr
    subst e0 e2
    clear hcc HR HBD HKU HV HAT
    rw [hk]
    rw [hk] at hneg
    clear hk
    generalize (ns.getD k default).val = vv at *
    generalize (ns.getD k default).name = vn at *
    generalize hnl : ns.length = nl at *
    clear hnl
    have y0 := p1 0
    have y1 := p1 1
    have y2 := p1 2
    have y3 := p1 3
    have q2 := p2' 0
    simp at y0 y1 y2 y3 q2
    have HS : Hid (∀ W', Below w2.heap.size w2 W' → (W'.cell? ⟨w.heap.size + 1, 0, none⟩ = some (.string nm) ∧ W'.cell? ⟨w.heap.size + 1, 1, none⟩ = some (.string gl) ∧ W'.cell? ⟨w.heap.size + 1, 2, none⟩ = some (.slice A2 n2 p2) ∧ W'.cell? ⟨w.heap.size + 1, 3, none⟩ = some (.slice A3 n3 p3) ∧ W'.cell? ⟨bb, o + k * 3 + 2, none⟩ = some (.string vv))) := fun W' hW => ⟨(hW.cell (p := ⟨w.heap.size + 1, 0, none⟩) z1).trans y0, (hW.cell (p := ⟨w.heap.size + 1, 1, none⟩) z1).trans y1, (hW.cell (p := ⟨w.heap.size + 1, 2, none⟩) z1).trans y2, (hW.cell (p := ⟨w.heap.size + 1, 3, none⟩) z1).trans y3, (hW.cell (p := ⟨bb, o + k * 3 + 2, none⟩) hbB).trans k2'⟩
    go_wp2_with fail
    go_region_held3 (fun w' => w'.cell? ⟨w.heap.size + 1, 0, none⟩ = some (.string nm) ∧ w'.cell? ⟨w.heap.size + 1, 1, none⟩ = some (.string gl) ∧ w'.cell? ⟨w.heap.size + 1, 2, none⟩ = some (.slice A2 n2 p2) ∧ w'.cell? ⟨w.heap.size + 1, 3, none⟩ = some (.slice A3 n3 p3) ∧ w'.cell? ⟨bb, o + k * 3 + 2, none⟩ = some (.string vv)) (first | exact HS.out _ HBX.out | exact HS.out _ (Below.refl w2.heap.size w2).drew | (have h5 := HS.out _ HBX.out; have h6 := HBB.out; exact ⟨(World.cell?_setCell_far _ _ _ _ (by simp)).trans h5.1, (World.cell?_setCell_far _ _ _ _ (by simp)).trans h5.2.1, (World.cell?_setCell_far _ _ _ _ (by simp)).trans h5.2.2.1, (World.cell?_setCell_far _ _ _ _ (by simp)).trans h5.2.2.2.1, (World.cell?_setCell_far _ _ _ _ (by simp; omega)).trans h5.2.2.2.2⟩))
      ((go_at_call 85; refine (HKK.out _ HB2.out.drew).mono ?_; rintro e w4 ⟨v', rfl, hsub, hb4'⟩; obtain ⟨AC, cc, rfl, hcc, hmc, hac⟩ := Own.own_slice hsub; have HSUB := Lib.hid hsub; have HBX := Lib.hid (undrew hb4'); have HQ := Lib.hid (Blk.later HZ2.out HBX.out z2); have q0 := Blk.cell HQ.out 0; have qf := Blk.frozen HQ.out 0; have qz := HQ.out.lt; simp at q0; clear hsub hb4' hac))
    go_wp2_with fail
    refine bodyPost_ret (v := .tuple #[.agg #[.slice AC _ cc], .int .i64 _]) (by simp [results, Tryz.results106, go_sem, q0]; try first | exact rfl | exact ⟨rfl, rfl⟩) rfl ?_
    rw [HE.out]
    refine ⟨_, rfl, ?_, (HB2.out.later HBX.out).setCell (by first | (simp; done) | (simp; omega) | (show w.heap.size ≤ _; omega)) _⟩
    have hS2 := Own.own_base HSUB.out (base := w.heap.size) (by have := HB2.out.size; simp; omega)
    exact World.ownsRow.kept hS2 (row := some (w.heap.size + 1 + 1)) (Own.grown_set _ _ _ _) (.inr (fun e => by have h1 := (HSUB.out.lt _ e).1; have h2 := z2; simp at h1; omega))
end Go.Proofs.YtalpafaflgddpaaGreatDoor

namespace Go.Proofs.YtalpafaflgddpaaGreatDoor
open Go.RowKit
set_option linter.unusedVariables false

/-- The rows with keys; the first code that is not 0 ends it. -/
def rowsAtB (f : ByteArray → Int × List ByteArray) : List ByteArray → Int × List (List ByteArray)
  | [] => (0, [])
  | k :: r => if (f k).1 = 0 then (if (rowsAtB f r).1 = 0 then (0, (f k).2 :: (rowsAtB f r).2) else ((rowsAtB f r).1, [])) else ((f k).1, [])
def joinR (acc : List (List ByteArray)) (r : Int × List (List ByteArray)) : Int × List (List ByteArray) := if r.1 = 0 then (0, acc ++ r.2) else (r.1, [])
theorem rowsAt_bad (f : ByteArray → Int × List ByteArray) (ks : List ByteArray) (k : Nat) (acc : List (List ByteArray)) (h : k < ks.length) (hf : (f (ks.getD k ByteArray.empty)).1 ≠ 0) : joinR acc (rowsAtB f (ks.drop k)) = ((f (ks.getD k ByteArray.empty)).1, []) := by
  rw [List.getD_eq_getElem?_getD, List.getElem?_eq_getElem h] at hf ⊢
  simp only [Option.getD_some] at hf ⊢
  rw [List.drop_eq_getElem_cons h, rowsAtB, if_neg hf]
  unfold joinR
  rw [if_neg hf]
theorem rowsAt_ok (f : ByteArray → Int × List ByteArray) (ks : List ByteArray) (k : Nat) (acc : List (List ByteArray)) (h : k < ks.length) (hf : (f (ks.getD k ByteArray.empty)).1 = 0) : joinR acc (rowsAtB f (ks.drop k)) = joinR (acc ++ [(f (ks.getD k ByteArray.empty)).2]) (rowsAtB f (ks.drop (k + 1))) := by
  rw [List.getD_eq_getElem?_getD, List.getElem?_eq_getElem h] at hf ⊢
  simp only [Option.getD_some] at hf ⊢
  rw [List.drop_eq_getElem_cons h, rowsAtB, if_pos hf]
  unfold joinR
  by_cases h0 : (rowsAtB f (ks.drop (k + 1))).1 = 0
  · rw [if_pos h0, if_pos rfl, if_pos h0]
    simp
  · rw [if_neg h0, if_neg h0, if_neg h0]
theorem rowsAt_end (f : ByteArray → Int × List ByteArray) (ks : List ByteArray) (acc : List (List ByteArray)) : joinR acc (rowsAtB f (ks.drop ks.length)) = (0, acc) := by
  rw [List.drop_length]
  simp [joinR, rowsAtB]
theorem rowsAt_start (f : ByteArray → Int × List ByteArray) (ks : List ByteArray) : rowsAtB f ks = joinR [] (rowsAtB f (ks.drop 0)) := by
  rw [List.drop_zero]
  unfold joinR
  cases ks with
  | nil => rfl
  | cons k r =>
    rw [rowsAtB]
    split
    · split
      · simp
      · simp
    · simp
/-- The rows of a plan, with the code. -/
def planRowsB (cols : List ByteArray) (g : ByteArray) (fs : List NodeD) (p : PlanD) : Int × List (List ByteArray) :=
  if p.kind = 1 then (if (rowAtB cols (rowsN g fs) p.val).1 = 3 then (0, []) else if (rowAtB cols (rowsN g fs) p.val).1 = 0 then (0, [(rowAtB cols (rowsN g fs) p.val).2]) else ((rowAtB cols (rowsN g fs) p.val).1, []))
  else if p.kind = 2 then (if (rowsAtB (rowAtB cols (rowsN g fs)) (keysN g p.col p.val fs)).1 = 0 then (if 24 < (rowsAtB (rowAtB cols (rowsN g fs)) (keysN g p.col p.val fs)).2.length then (4, []) else rowsAtB (rowAtB cols (rowsN g fs)) (keysN g p.col p.val fs)) else ((rowsAtB (rowAtB cols (rowsN g fs)) (keysN g p.col p.val fs)).1, []))
  else rowsT cols (rowsN g fs)
theorem keys_small {fs : List NodeD} {g col val : ByteArray} (hs : smallNs fs) : ∀ s ∈ keysN g col val fs, s.size ≤ 1048576 := by
  intro s h
  unfold keysN at h
  obtain ⟨d, hd, rfl⟩ := List.mem_map.1 h
  obtain ⟨h1, h2⟩ := List.mem_filter.1 hd
  unfold isKeyB at h2
  simp only [Bool.and_eq_true, decide_eq_true_eq] at h2
  exact (hs.2 d h1).2.1.2 _ (getD_memS _ _ (by rw [h2.2.1]; omega))
end Go.Proofs.YtalpafaflgddpaaGreatDoor

namespace Go.Proofs.YtalpafaflgddpaaGreatDoor
open Go.RowKit
set_option linter.unusedVariables false

set_option maxRecDepth 100000 in
set_option maxHeartbeats 4000000 in
theorem l30Rows_any (A : Option Addr) (n c : Nat) (b0 b1 b2 b3 e0 e1 e2 : Value) (fs : List NodeD) (b : TableD) (p : PlanD) (w : World) (ht : Nodes w w.heap.size A n fs) (hb : TableR w w.heap.size b0 b1 b2 b3 b) (hp : PlanR w w.heap.size e0 e1 e2 p) (hts : smallNs fs) (htr : treeB fs = true) (hpos : 0 < b.cols.length) (hn5 : b.cols.length ≤ 5) (hps : p.small) :
    Calls Tryz.prog 62 #[.agg #[.slice A n c], .agg #[b0, b1, b2, b3], .agg #[e0, e1, e2]] w (RowsPost (planRowsB b.cols b.glob fs p) w) := by
  obtain ⟨i0, hi, hz0, hz1, hz2⟩ := info_parts infoRowD
  have HKA := Lib.hid (fun W (hW : Below w.heap.size w W) key hk => l29RowAt_any A n c b0 b1 b2 b3 fs b key W (ht.later hW) (hb.later hW) hts htr hpos hn5 hk)
  have HKK := Lib.hid (fun W (hW : Below w.heap.size w W) => l29Keys_any A n c b0 b1 b2 b3 fs b p.col p.val W (ht.later hW) (hb.later hW) hts)
  have HKR := Lib.hid (fun W (hW : Below w.heap.size w W) => l29Rows_any A n c b0 b1 b2 b3 fs b W (ht.later hW) (hb.later hW) hts htr hpos hn5)
  have HPV := Lib.hid (hps.2)
  have HKL : Hid ((keysN b.glob p.col p.val fs).length ≤ 1048576) := keys_len hts
  have HKZ : Hid (∀ s ∈ keysN b.glob p.col p.val fs, s.size ≤ 1048576) := keys_small hts
  have HR : Hid (planRowsB b.cols b.glob fs p = if p.kind = 1 then (if (rowAtB b.cols (rowsN b.glob fs) p.val).1 = 3 then (0, []) else if (rowAtB b.cols (rowsN b.glob fs) p.val).1 = 0 then (0, [(rowAtB b.cols (rowsN b.glob fs) p.val).2]) else ((rowAtB b.cols (rowsN b.glob fs) p.val).1, []))
    else if p.kind = 2 then (if (rowsAtB (rowAtB b.cols (rowsN b.glob fs)) (keysN b.glob p.col p.val fs)).1 = 0 then (if 24 < (rowsAtB (rowAtB b.cols (rowsN b.glob fs)) (keysN b.glob p.col p.val fs)).2.length then (4, []) else rowsAtB (rowAtB b.cols (rowsN b.glob fs)) (keysN b.glob p.col p.val fs)) else ((rowsAtB (rowAtB b.cols (rowsN b.glob fs)) (keysN b.glob p.col p.val fs)).1, []))
    else rowsT b.cols (rowsN b.glob fs)) := rfl
  obtain ⟨rfl, rfl, ⟨A2, n2, p2, rfl, s2, k2⟩, ⟨A3, n3, p3, rfl, s3, k3⟩⟩ := hb
  obtain ⟨rfl, rfl, rfl⟩ := hp
  clear s2 s3 ht hts htr hpos hn5 hps
  generalize planRowsB b.cols b.glob fs p = R at *
  generalize rowsT b.cols (rowsN b.glob fs) = RT at *
  generalize rowAtB b.cols (rowsN b.glob fs) = ra at *
  generalize keysN b.glob p.col p.val fs = ks at *
  generalize b.name = nm at *
  generalize b.glob = gl at *
  generalize p.kind = kd at *
  generalize p.col = pc at *
  generalize p.val = pv at *
  have HB0 := Lib.hid (below_new4 w (.cells #[.slice A n c] 41) (.cells #[.string nm, .string gl, .slice A2 n2 p2, .slice A3 n3 p3] 43) (.cells #[.int .i64 kd, .string pc, .string pv] 49) (.cells #[] 90))
  have HX0 := Lib.hid (heap_new0 w (.cells #[.slice A n c] 41) (.cells #[.string nm, .string gl, .slice A2 n2 p2, .slice A3 n3 p3] 43) (.cells #[.int .i64 kd, .string pc, .string pv] 49))
  have HX1 := Lib.hid (heap_new1 w (.cells #[.slice A n c] 41) (.cells #[.string nm, .string gl, .slice A2 n2 p2, .slice A3 n3 p3] 43) (.cells #[.int .i64 kd, .string pc, .string pv] 49))
  have HX2 := Lib.hid (heap_new2 w (.cells #[.slice A n c] 41) (.cells #[.string nm, .string gl, .slice A2 n2 p2, .slice A3 n3 p3] 43) (.cells #[.int .i64 kd, .string pc, .string pv] 49))
  have HLIT : Hid (RowsI ((((w.alloc (.cells #[.slice A n c] 41)).alloc (.cells #[.string nm, .string gl, .slice A2 n2 p2, .slice A3 n3 p3] 43)).alloc (.cells #[.int .i64 kd, .string pc, .string pv] 49)).alloc (.cells #[] 90)) w.heap.size (.slice (some ⟨w.heap.size + 1 + 1 + 1, 0, none⟩) 0 0) []) := by
    unfold Hid
    have h := rowsI_lit ((((w.alloc (.cells #[.slice A n c] 41)).alloc (.cells #[.string nm, .string gl, .slice A2 n2 p2, .slice A3 n3 p3] 43)).alloc (.cells #[.int .i64 kd, .string pc, .string pv] 49))) w.heap.size (below_new3 w _ _ _).size
    have e : ((((w.alloc (.cells #[.slice A n c] 41)).alloc (.cells #[.string nm, .string gl, .slice A2 n2 p2, .slice A3 n3 p3] 43)).alloc (.cells #[.int .i64 kd, .string pc, .string pv] 49))).heap.size = w.heap.size + 1 + 1 + 1 := by simp
    rw [e] at h
    exact h
  go_enter Tryz.func62, Tryz.ntmps62
  by_cases h1 : kd = 1
  · subst h1
    go_wp2_with fail
    refine (HKA.out _ HB0.out pv HPV.out).mono ?_
    rintro e w3 ⟨v3, rfl, hs3, hb3⟩
    obtain ⟨RA, rcap, rfl, _⟩ := Own.own_slice hs3
    have HS3 := Lib.hid hs3
    have HL3 := Lib.hid (HLIT.out.later hb3)
    have HB3 := Lib.hid (HB0.out.later hb3)
    have HR3 : Hid (R = if (ra pv).1 = 3 then (0, []) else if (ra pv).1 = 0 then (0, [(ra pv).2]) else ((ra pv).1, [])) := by unfold Hid; rw [HR.out]; rfl
    clear hs3 hb3 HR HLIT HKK HKR HKA
    generalize ra pv = r at *
    obtain ⟨rc, rr⟩ := r
    by_cases h3 : rc = 3
    · have HE : Hid (R = (0, [])) := by unfold Hid; rw [HR3.out, if_pos h3]
      subst h3
      go_wp2_with fail
      refine bodyPost_ret (v := .tuple #[.slice (some ⟨_, 0, none⟩) 0 0, .int .i64 _]) (by simp [results, Tryz.results62, go_sem]; try first | exact rfl | exact ⟨rfl, rfl⟩) rfl ?_
      exact ⟨_, by rw [HE.out], by rw [HE.out]; exact HL3.out.later (Below.new _ _), HB3.out.later (Below.new _ _)⟩
    by_cases h0 : rc = 0
    · have HE : Hid (R = (0, [rr])) := by unfold Hid; rw [HR3.out, if_neg h3, if_pos h0]
      subst h0
      clear h3 HR3
      obtain ⟨vs, hO⟩ := HL3.out
      have hvs : vs = [] := List.eq_nil_of_length_eq_zero hO.len
      subst hvs
      have HW5 := Lib.hid (HB3.out.later (Below.new w3 (.cells #[.slice RA rr.length rcap] 90)))
      have hO5 := hO.later (Below.new w3 (.cells #[.slice RA rr.length rcap] 90))
      have hS5 : Own.SubO (w3.alloc (.cells #[.slice RA rr.length rcap] 90)) w.heap.size (.slice RA rr.length rcap) rr := Own.own_later (Own.own_base HS3.out HB0.out.size) (Below.new _ _)
      have HO5 := Lib.hid hO5
      have HS5 := Lib.hid hS5
      have z55 : w.heap.size ≤ w3.heap.size := HB3.out.size
      have hrow : Hid (∀ oo, ((w3.alloc (.cells #[.slice RA rr.length rcap] 90)).alloc oo).ownsRow w.heap.size 90 1 (.slice (some ⟨w.heap.size + 1 + 1 + 1, 0, none⟩) 0 0) 0 (Own.flat rowK [] [])) := fun oo => Own.own_later HO5.out.row (Below.new _ _)
      clear hO hO5 hS5
      go_wp2_with (at_builtin; refine wpList_append_own _ rfl (.tmp 35) (.tmp 37) 55 rfl w.heap.size 90 i0 _ 1 24 Tryz.underlying55 hi hz0 hz1 hz2 rfl (by decide) _ 0 _ rfl (hrow.out _) ⟨_, 0, none⟩ 1 1 [.slice RA rr.length rcap] rfl rfl ?m1 ?m2 ?m3 ?m4 ?m5 ?_)
      all_goals try (first | exact cells_atN _ #[.slice RA rr.length rcap] _ _ (by simp) | (simp [Value.oneCell']; done) | (unfold maxLen; omega) | omega | (simp; omega) | (show w.heap.size ≤ _; simp; omega))
      intro v1 w6 hown1 hg1 hnn
      have HN6 : Hid (RowsI w6 w.heap.size v1 ([] ++ [rr])) := by
        have hX6 : Own.SubO ((w3.alloc (.cells #[.slice RA rr.length rcap] 90)).alloc (.cells #[.slice RA rr.length rcap] 90)) w.heap.size (.slice RA rr.length rcap) rr := Own.own_later HS5.out (Below.new _ _)
        exact ⟨[] ++ [.slice RA rr.length rcap], Own.OwnL.snoc (HO5.out.later (Below.new _ (.cells #[.slice RA rr.length rcap] 90))) hX6 (fun u hu => by simp at hu) (by show w6.ownsRow w.heap.size 90 1 v1 1 (Own.flat rowK [] [] ++ [.slice RA rr.length rcap]); exact hown1) hg1 (by decide)⟩
      have HB6 := Lib.hid ((HW5.out.later (Below.new (w3.alloc (.cells #[.slice RA rr.length rcap] 90)) (.cells #[.slice RA rr.length rcap] 90))).grown hg1 (by simp; omega) (fun g hg' => ((hrow.out (.cells #[] 0)).lt g hg').1))
      have hsl := Own.own_slice hown1
      obtain ⟨A6, cap6, rfl, _⟩ := hsl
      clear hown1 hg1 hnn hrow HO5 HS5
      go_wp2_with fail
      refine bodyPost_ret (v := .tuple #[.slice A6 1 cap6, .int .i64 0]) (by simp [results, Tryz.results62, go_sem]) rfl ?_
      exact ⟨_, by rw [HE.out], by rw [HE.out]; exact HN6.out, HB6.out⟩
    · have HE : Hid (R = (rc, [])) := by unfold Hid; rw [HR3.out, if_neg h3, if_neg h0]
      have j1 := int_beq h3
      have j2 := int_beq h0
      have j3 : (rc != 0) = true := by simp [h0]
      clear HR3
      go_wp2_with fail
      refine bodyPost_ret (v := .tuple #[.slice (some ⟨_, 0, none⟩) 0 0, .int .i64 _]) (by simp [results, Tryz.results62, go_sem]; try first | exact rfl | exact ⟨rfl, rfl⟩) rfl ?_
      exact ⟨_, by rw [HE.out], by rw [HE.out]; exact HL3.out.later (Below.new _ _), HB3.out.later (Below.new _ _)⟩
  by_cases h2 : kd = 2
  · subst h2
    clear h1
    go_wp2_with fail
    refine (HKK.out _ HB0.out).mono ?_
    rintro e w3 ⟨v3, rfl, hs3, hb3⟩
    have HKO : Hid (Own.SubO w3 w.heap.size v3 ks) := Own.own_base hs3 HB0.out.size
    obtain ⟨KA, kcap, rfl, hkc, hkS⟩ := hs3.strs
    have HL3 := Lib.hid (HLIT.out.later hb3)
    have HB3 := Lib.hid (HB0.out.later hb3)
    have HY0 := Lib.hid (Blk.later HX0.out (((Below.new _ _).later hb3)) (by simp; omega))
    have HY1 := Lib.hid (Blk.later HX1.out (((Below.new _ _).later hb3)) (by simp))
    clear hs3 hb3 HKK HKR HLIT hkS HX0 HX1 HX2
    generalize hm : ks.length = m at *
    have HM := Lib.hid hm
    have hml : m ≤ 1048576 := HKL.out
    clear hm
    have HS0 : Hid (rowsAtB ra ks = joinR [] (rowsAtB ra (ks.drop 0))) := rowsAt_start ra ks
    go_wp2_with fail
    go_loopw [8, 12] (fun v i wr => ∃ (k : Nat) (acc : List (List ByteArray)), k ≤ m ∧ i = .int .i64 k ∧ acc.length = k ∧ RowsI wr w.heap.size v acc ∧ Below w.heap.size w wr ∧ Hid (Blk wr w.heap.size 41 #[.slice A n c]) ∧ Hid (Blk wr (w.heap.size + 1) 43 #[.string nm, .string gl, .slice A2 n2 p2, .slice A3 n3 p3]) ∧ Hid (Own.SubO wr w.heap.size (.slice KA m kcap) ks) ∧ Hid (rowsAtB ra ks = joinR acc (rowsAtB ra (ks.drop k)))) (fun _ i _ => m - (intOf i).toNat)
    case atStart => exact ⟨0, [], Nat.zero_le _, rfl, rfl, HL3.out, HB3.out, HY0.out, HY1.out, HKO.out, HS0.out⟩
    case round =>
      clear HY0 HY1 HKO
      obtain ⟨k, acc, hk, rfl, hacc, hrows, hb, HY0, HY1, HKO, hS⟩ := hrel
      obtain ⟨vs, hrows⟩ := hrows
      have HRW := Lib.hid hrows
      have HBw := Lib.hid hb
      clear hb hrows
      by_cases hlt : k < m
      · have hl : k < ks.length := by rw [HM.out]; exact hlt
        -- ROUND
        obtain ⟨KA, kcap, ekv, hkc, hkS⟩ := Own.SubO.strs HKO.out
        injection ekv with e1 e2 e3
        subst e1 e3
        clear e2
        rw [HM.out] at hkS hkc
        obtain ⟨kb, ko, rfl, hkb, hkc2⟩ := hkS.2 (by omega)
        have hck := hkc2 k (by omega)
        have HN := Lib.hid (rowsAt_bad ra ks k acc hl)
        have HSo := Lib.hid (rowsAt_ok ra ks k acc hl)
        have HKK := Lib.hid (fun W hW => HKA.out W hW (ks.getD k ByteArray.empty) (HKZ.out _ (getD_memS _ _ hl)))
        clear hl hkc2 HKA
        generalize ks.getD k ByteArray.empty = key at *
        generalize ra key = r at *
        obtain ⟨rc, rr⟩ := r
        have y0 := HY0.out.cell 0
        have x0 := HY1.out.cell 0
        have x1 := HY1.out.cell 1
        have x2 := HY1.out.cell 2
        have x3 := HY1.out.cell 3
        simp at y0 x0 x1 x2 x3
        have i1 : (k : Int) < (m : Int) := by omega
        have HQ0 : Hid (Blk (wr.alloc (.cells #[.slice none 0 0] 90)) wr.heap.size 90 #[.slice none 0 0]) := heap_last rfl
        have HBn := Lib.hid (HBw.out.later (Below.new wr (.cells #[.slice none 0 0] 90)))
        have HS : Hid (∀ W', Below wr.heap.size wr W' → (W'.cell? ⟨w.heap.size, 0, none⟩ = some (.slice A n c) ∧ W'.cell? ⟨w.heap.size + 1, 0, none⟩ = some (.string nm) ∧ W'.cell? ⟨w.heap.size + 1, 1, none⟩ = some (.string gl) ∧ W'.cell? ⟨w.heap.size + 1, 2, none⟩ = some (.slice A2 n2 p2) ∧ W'.cell? ⟨w.heap.size + 1, 3, none⟩ = some (.slice A3 n3 p3) ∧ W'.cell? ⟨kb, ko + k, none⟩ = some (.string key))) := fun W' hW => ⟨cell_later hW y0, cell_later hW x0, cell_later hW x1, cell_later hW x2, cell_later hW x3, cell_later hW hck⟩
        go_wp2_with fail
        go_region_held3 (fun w' => w'.cell? ⟨w.heap.size, 0, none⟩ = some (.slice A n c) ∧ w'.cell? ⟨w.heap.size + 1, 0, none⟩ = some (.string nm) ∧ w'.cell? ⟨w.heap.size + 1, 1, none⟩ = some (.string gl) ∧ w'.cell? ⟨w.heap.size + 1, 2, none⟩ = some (.slice A2 n2 p2) ∧ w'.cell? ⟨w.heap.size + 1, 3, none⟩ = some (.slice A3 n3 p3) ∧ w'.cell? ⟨kb, ko + k, none⟩ = some (.string key)) (first | exact HS.out _ (Below.refl _ _).drew | exact HS.out _ (Below.new _ _).drew | exact HS.out _ HBY.out | exact HS.out _ (HBY.out.later (Below.new _ _)) | exact HS.out _ (HBY.out.setCell (Nat.le_refl _) _))
          (first
            | (go_at_call 106; refine (HKK.out _ HBw.out.drew).mono ?_; rintro e w4 ⟨v', rfl, hsub, hb4'⟩; obtain ⟨AC, cc, rfl, hcc, hmc, hac⟩ := Own.own_slice hsub; have HSUB := Lib.hid hsub; have HBX := Lib.hid (undrew hb4'); have HBY := Lib.hid HBX.out; clear hsub hb4' hac)
            | (go_at_call 106; refine (HKK.out _ HBn.out.drew).mono ?_; rintro e w4 ⟨v', rfl, hsub, hb4'⟩; obtain ⟨AC, cc, rfl, hcc, hmc, hac⟩ := Own.own_slice hsub; have HSUB := Lib.hid hsub; have HBX := Lib.hid (undrew hb4'); have HBY := Lib.hid ((Below.new wr (.cells #[.slice none 0 0] 90)).later HBX.out); have HQ := Lib.hid (Blk.later HQ0.out HBX.out (by simp)); have q0 := (Blk.cell HQ.out 0); have qf := Blk.frozen HQ.out 0; have qz := Blk.lt HQ.out; simp at q0; clear hsub hb4' hac))
        · have HBZ := Lib.hid (HBX.out.later (Below.new w4 (.cells #[(.slice AC rr.length cc)] 90)))
          have HQ5 : Hid (Blk (w4.alloc (.cells #[(.slice AC rr.length cc)] 90)) w4.heap.size 90 #[(.slice AC rr.length cc)]) := heap_last rfl
          have HS5 : Hid (Own.SubO (w4.alloc (.cells #[(.slice AC rr.length cc)] 90)) wr.heap.size (.slice AC rr.length cc) rr) := Own.own_later HSUB.out (Below.new _ _)
          have HAPB : wr.heap.size ≤ wr.heap.size := Nat.le_refl _
          obtain ⟨W5, hW5⟩ : ∃ W5, W5 = w4.alloc (.cells #[(.slice AC rr.length cc)] 90) := ⟨_, rfl⟩
          rw [← hW5] at HBZ HQ5 HS5 ⊢
          clear hW5 HBX HBY HSUB HQ0 HBn
          have HBv := Lib.hid (HBw.out.later HBZ.out)
          have HRW5 := Lib.hid (HRW.out.later HBZ.out)
          have q5 := HQ5.out.cell 0
          have qz5 := HQ5.out.lt
          simp at q5
          have z35 := HBv.out.size
          have z36 := HBw.out.size
          by_cases h0 : rc = 0
          · have HE : Hid (rowsAtB ra ks = joinR (acc ++ [rr]) (rowsAtB ra (ks.drop (k + 1)))) := by
              unfold Hid
              exact hS.out.trans (HSo.out h0)
            subst h0
            have HO := Lib.hid HRW5.out
            have HAP := Lib.hid (Own.OwnL.fresh HRW.out HS5.out HAPB)
            have hrow : Hid (∀ oo, (W5.alloc oo).ownsRow w.heap.size 90 1 u8 acc.length (Own.flat rowK acc vs)) := fun oo => Own.own_later HO.out.row (Below.new _ _)
            have hx5 : Own.SubO W5 w.heap.size (.slice AC rr.length cc) rr := Own.own_base HS5.out (by first | omega | (simp; omega))
            have HX5 := Lib.hid hx5
            clear hx5 HR HS0
            go_wp2_with (at_builtin; refine wpList_append_own _ rfl (.tmp 68) (.tmp 70) 55 rfl w.heap.size 90 i0 _ 1 24 Tryz.underlying55 hi hz0 hz1 hz2 rfl (by decide) _ acc.length _ rfl (hrow.out _) ⟨_, 0, none⟩ 1 1 [.slice AC rr.length cc] rfl rfl ?mm1 ?mm2 ?mm3 ?mm4 ?mm5 ?_)
            all_goals try (first | exact cells_atN _ #[.slice AC rr.length cc] _ _ (by simp) | (simp [Value.oneCell']; done) | (unfold maxLen; omega) | omega | (simp; omega))
            intro v1 w6 hown1 hg1 _
            have HN6 : Hid (RowsI w6 w.heap.size v1 (acc ++ [rr])) := by
              have hX6 : Own.SubO (W5.alloc (.cells #[.slice AC rr.length cc] 90)) w.heap.size (.slice AC rr.length cc) rr := Own.own_later HX5.out (Below.new _ _)
              refine ⟨vs ++ [.slice AC rr.length cc], Own.OwnL.snoc (HO.out.later (Below.new W5 (.cells #[.slice AC rr.length cc] 90))) hX6 HAP.out ?_ hg1 (by decide)⟩
              show w6.ownsRow w.heap.size 90 1 v1 (acc.length + 1) (Own.flat rowK acc vs ++ [.slice AC rr.length cc])
              rw [hacc]
              exact hown1
            have HB6 := Lib.hid ((HBv.out.later (Below.new W5 (.cells #[.slice AC rr.length cc] 90))).grown hg1 (by simp; omega) (fun g hg' => ((hrow.out (.cells #[] 0)).lt g hg').1))
            have HA6 := Lib.hid ((Blk.alloc (HY0.out.later HBZ.out HY0.out.lt) (.cells #[.slice AC rr.length cc] 90)).grown hg1 (Ne.symm (Own.own_blk_ne (hrow.out _) (Blk.alloc (HY0.out.later HBZ.out HY0.out.lt) (.cells #[.slice AC rr.length cc] 90)) (by decide))))
            have HA7 := Lib.hid ((Blk.alloc (HY1.out.later HBZ.out HY1.out.lt) (.cells #[.slice AC rr.length cc] 90)).grown hg1 (Ne.symm (Own.own_blk_ne (hrow.out _) (Blk.alloc (HY1.out.later HBZ.out HY1.out.lt) (.cells #[.slice AC rr.length cc] 90)) (by decide))))
            have HA8 := Lib.hid (Own.kept_apart (Own.own_later (Own.own_later HKO.out HBZ.out) (Below.new W5 (.cells #[.slice AC rr.length cc] 90))) hg1 (Own.apart_types (Own.own_later (Own.own_later HKO.out HBZ.out) (Below.new W5 (.cells #[.slice AC rr.length cc] 90))) (hrow.out _) (by decide)))
            clear hown1 hg1
            go_wp2_with fail
            go_roundw
            case rel => exact ⟨k + 1, acc ++ [rr], by omega, by go_num, by simp [hacc], HN6.out, HB6.out, HA6.out, HA7.out, HA8.out, HE.out⟩
            case measure => simp [intOf]; omega
          · have HE : Hid (R = (rc, [])) := by
              unfold Hid
              rw [HR.out, if_neg (by decide), if_pos trivial, hS.out.trans (HN.out h0), if_neg h0]
            have j2 := int_beq h0
            have j3 : (rc != 0) = true := by simp [h0]
            clear q5 qz5 HR HS0
            go_wp2_with fail
            refine bodyPost_ret (v := .tuple #[.slice (some ⟨_, 0, none⟩) 0 0, .int .i64 _]) (by simp [results, Tryz.results62, go_sem]; try first | exact rfl | exact ⟨rfl, rfl⟩) rfl ?_
            exact ⟨_, by rw [HE.out], by rw [HE.out]; exact rowsI_lit _ _ HBv.out.size, HBv.out.later (Below.new _ _)⟩
        · have HBZ := Lib.hid (HBY.out.setCell (p := ⟨wr.heap.size, 0, none⟩) (Nat.le_refl _) (.slice AC rr.length cc))
          have HQ5 : Hid (Blk (w4.setCell ⟨wr.heap.size, 0, none⟩ (.slice AC rr.length cc)) wr.heap.size 90 #[(.slice AC rr.length cc)]) := by unfold Hid; have h := HQ.out.set_ 0 (.slice AC rr.length cc); simpa using h
          have HS5 : Hid (Own.SubO (w4.setCell ⟨wr.heap.size, 0, none⟩ (.slice AC rr.length cc)) (wr.alloc (.cells #[.slice none 0 0] 90)).heap.size (.slice AC rr.length cc) rr) := Own.sub_far HSUB.out (by simp)
          have HAPB : wr.heap.size ≤ (wr.alloc (.cells #[.slice none 0 0] 90)).heap.size := by simp
          obtain ⟨W5, hW5⟩ : ∃ W5, W5 = w4.setCell ⟨wr.heap.size, 0, none⟩ (.slice AC rr.length cc) := ⟨_, rfl⟩
          rw [← hW5] at HBZ HQ5 HS5 ⊢
          clear hW5 HBX HBY HSUB HQ0 HBn q0 qf qz HQ
          have HBv := Lib.hid (HBw.out.later HBZ.out)
          have HRW5 := Lib.hid (HRW.out.later HBZ.out)
          have q5 := HQ5.out.cell 0
          have qz5 := HQ5.out.lt
          simp at q5
          have z35 := HBv.out.size
          have z36 := HBw.out.size
          by_cases h0 : rc = 0
          · have HE : Hid (rowsAtB ra ks = joinR (acc ++ [rr]) (rowsAtB ra (ks.drop (k + 1)))) := by
              unfold Hid
              exact hS.out.trans (HSo.out h0)
            subst h0
            have HO := Lib.hid HRW5.out
            have HAP := Lib.hid (Own.OwnL.fresh HRW.out HS5.out HAPB)
            have hrow : Hid (∀ oo, (W5.alloc oo).ownsRow w.heap.size 90 1 u8 acc.length (Own.flat rowK acc vs)) := fun oo => Own.own_later HO.out.row (Below.new _ _)
            have hx5 : Own.SubO W5 w.heap.size (.slice AC rr.length cc) rr := Own.own_base HS5.out (by first | omega | (simp; omega))
            have HX5 := Lib.hid hx5
            clear hx5 HR HS0
            go_wp2_with (at_builtin; refine wpList_append_own _ rfl (.tmp 68) (.tmp 70) 55 rfl w.heap.size 90 i0 _ 1 24 Tryz.underlying55 hi hz0 hz1 hz2 rfl (by decide) _ acc.length _ rfl (hrow.out _) ⟨_, 0, none⟩ 1 1 [.slice AC rr.length cc] rfl rfl ?nn1 ?nn2 ?nn3 ?nn4 ?nn5 ?_)
            all_goals try (first | exact cells_atN _ #[.slice AC rr.length cc] _ _ (by simp) | (simp [Value.oneCell']; done) | (unfold maxLen; omega) | omega | (simp; omega))
            intro v1 w6 hown1 hg1 _
            have HN6 : Hid (RowsI w6 w.heap.size v1 (acc ++ [rr])) := by
              have hX6 : Own.SubO (W5.alloc (.cells #[.slice AC rr.length cc] 90)) w.heap.size (.slice AC rr.length cc) rr := Own.own_later HX5.out (Below.new _ _)
              refine ⟨vs ++ [.slice AC rr.length cc], Own.OwnL.snoc (HO.out.later (Below.new W5 (.cells #[.slice AC rr.length cc] 90))) hX6 HAP.out ?_ hg1 (by decide)⟩
              show w6.ownsRow w.heap.size 90 1 v1 (acc.length + 1) (Own.flat rowK acc vs ++ [.slice AC rr.length cc])
              rw [hacc]
              exact hown1
            have HB6 := Lib.hid ((HBv.out.later (Below.new W5 (.cells #[.slice AC rr.length cc] 90))).grown hg1 (by simp; omega) (fun g hg' => ((hrow.out (.cells #[] 0)).lt g hg').1))
            have HA6 := Lib.hid ((Blk.alloc (HY0.out.later HBZ.out HY0.out.lt) (.cells #[.slice AC rr.length cc] 90)).grown hg1 (Ne.symm (Own.own_blk_ne (hrow.out _) (Blk.alloc (HY0.out.later HBZ.out HY0.out.lt) (.cells #[.slice AC rr.length cc] 90)) (by decide))))
            have HA7 := Lib.hid ((Blk.alloc (HY1.out.later HBZ.out HY1.out.lt) (.cells #[.slice AC rr.length cc] 90)).grown hg1 (Ne.symm (Own.own_blk_ne (hrow.out _) (Blk.alloc (HY1.out.later HBZ.out HY1.out.lt) (.cells #[.slice AC rr.length cc] 90)) (by decide))))
            have HA8 := Lib.hid (Own.kept_apart (Own.own_later (Own.own_later HKO.out HBZ.out) (Below.new W5 (.cells #[.slice AC rr.length cc] 90))) hg1 (Own.apart_types (Own.own_later (Own.own_later HKO.out HBZ.out) (Below.new W5 (.cells #[.slice AC rr.length cc] 90))) (hrow.out _) (by decide)))
            clear hown1 hg1
            go_wp2_with fail
            go_roundw
            case rel => exact ⟨k + 1, acc ++ [rr], by omega, by go_num, by simp [hacc], HN6.out, HB6.out, HA6.out, HA7.out, HA8.out, HE.out⟩
            case measure => simp [intOf]; omega
          · have HE : Hid (R = (rc, [])) := by
              unfold Hid
              rw [HR.out, if_neg (by decide), if_pos trivial, hS.out.trans (HN.out h0), if_neg h0]
            have j2 := int_beq h0
            have j3 : (rc != 0) = true := by simp [h0]
            clear q5 qz5 HR HS0
            go_wp2_with fail
            refine bodyPost_ret (v := .tuple #[.slice (some ⟨_, 0, none⟩) 0 0, .int .i64 _]) (by simp [results, Tryz.results62, go_sem]; try first | exact rfl | exact ⟨rfl, rfl⟩) rfl ?_
            exact ⟨_, by rw [HE.out], by rw [HE.out]; exact rowsI_lit _ _ HBv.out.size, HBv.out.later (Below.new _ _)⟩
        -- DNUOR
      · obtain rfl : k = m := by omega
        have hS2 := rowsAt_end ra ks acc
        rw [HM.out] at hS2
        have HF : Hid (rowsAtB ra ks = (0, acc)) := hS.out.trans hS2
        have HR2 : Hid (R = if 24 < acc.length then (4, []) else (0, acc)) := by unfold Hid; rw [HR.out, if_neg (by decide), if_pos trivial, HF.out]; rfl
        obtain ⟨A7, cap7, rfl, _⟩ := Own.own_slice HRW.out.row
        clear hS hS2 HR
        by_cases hbig : 24 < k
        · have HE : Hid (R = (4, [])) := by unfold Hid; rw [HR2.out, if_pos (by omega)]
          -- END1
          have HBz := Lib.hid HBw.out
          go_wp2_with fail
          refine bodyPost_ret (v := .tuple #[.slice (some ⟨_, 0, none⟩) 0 0, .int .i64 _]) (by simp [results, Tryz.results62, go_sem]; try first | exact rfl | exact ⟨rfl, rfl⟩) rfl ?_
          exact ⟨_, by rw [HE.out], by rw [HE.out]; exact rowsI_lit _ _ HBw.out.size, HBw.out.later (Below.new _ _)⟩
          -- 1DNE
        · -- END2
          have HE : Hid (R = (0, acc)) := by unfold Hid; rw [HR2.out, if_neg (by omega)]
          go_wp2_with fail
          refine bodyPost_ret (v := .tuple #[.slice A7 _ cap7, .int .i64 _]) (by simp [results, Tryz.results62, go_sem]; try first | exact rfl | exact ⟨rfl, rfl⟩) rfl ?_
          exact ⟨_, by rw [HE.out], by rw [HE.out]; exact ⟨vs, HRW.out⟩, HBw.out⟩
          -- 2DNE
  · have i1 := int_beq h1
    have i2 := int_beq h2
    have HE : Hid (R = RT) := by unfold Hid; rw [HR.out, if_neg h1, if_neg h2]
    clear h1 h2 HR
    go_wp2_with fail
    refine (HKR.out _ HB0.out).mono ?_
    rintro e w3 ⟨v3, rfl, ho3, hb3⟩
    have HO3 := Lib.hid (ho3.base HB0.out.size)
    have HB3 := Lib.hid (HB0.out.later hb3)
    obtain ⟨vs3, hO3⟩ := ho3
    obtain ⟨A5, cap5, rfl, _⟩ := Own.own_slice hO3.row
    clear hO3 hb3
    go_wp2_with fail
    refine bodyPost_ret (v := .tuple #[.slice A5 _ cap5, .int .i64 _]) (by simp [results, Tryz.results62, go_sem]; try first | exact rfl | exact ⟨rfl, rfl⟩) rfl ?_
    exact ⟨_, by rw [HE.out], by rw [HE.out]; exact HO3.out, HB3.out⟩
end Go.Proofs.YtalpafaflgddpaaGreatDoor

namespace Go.Proofs.YtalpafaflgddpaaGreatDoor
open Go.RowKit
set_option linter.unusedVariables false

def runPB (fs : List NodeD) (b : TableD) (q : QueryD) (p : PlanD) : Int × List (List ByteArray) :=
  if (treeB fs && fitsP b q p) = true then (if (planRowsB b.cols b.glob fs p).1 = 0 then (0, madeB b q (planRowsB b.cols b.glob fs p).2) else ((planRowsB b.cols b.glob fs p).1, [])) else (1, [])
theorem fitsP_facts {b : TableD} {q : QueryD} {p : PlanD} (h : fitsP b q p = true) : fitsB b q = true := by
  unfold fitsP at h
  rw [Bool.and_eq_true] at h
  exact h.1
theorem codeU_zero {o : Option (List ByteArray)} (h : codeU o = 0) : ∃ x, o = some x := by
  cases o with
  | none => exact absurd h (by decide)
  | some x => exact ⟨x, rfl⟩
theorem rowAt_zero {cs : List ByteArray} {ns : List NodeD} {key : ByteArray} (hc : cs.length ≤ 5) (h : (rowAtB cs ns key).1 = 0) : smallR (rowAtB cs ns key).2 ∧ (rowAtB cs ns key).2.length = cs.length := by
  unfold rowAtB at h ⊢
  split
  · next hn => rw [if_pos hn] at h; exact absurd h (by decide)
  · next hn =>
    rw [if_neg hn] at h
    obtain ⟨x, hx⟩ := codeU_zero h
    simp only [hx, Option.getD_some]
    exact rowB_small hc (unp_row (cols := ByteArray.empty) hx)
theorem rowsAt_mem (f : ByteArray → Int × List ByteArray) : ∀ ks : List ByteArray, ∀ r ∈ (rowsAtB f ks).2, ∃ k, (f k).1 = 0 ∧ r = (f k).2
  | [], r, hr => by simp [rowsAtB] at hr
  | k :: t, r, hr => by
    unfold rowsAtB at hr
    split at hr
    · next h0 =>
      split at hr
      · rcases List.mem_cons.1 hr with h1 | h1
        · exact ⟨k, h0, h1⟩
        · exact rowsAt_mem f t r h1
      · simp at hr
    · simp at hr
theorem planRows_zero {cs : List ByteArray} {g : ByteArray} {fs : List NodeD} {p : PlanD} (hc : cs.length ≤ 5) (h : (planRowsB cs g fs p).1 = 0) : (planRowsB cs g fs p).2.length ≤ 24 ∧ ∀ r ∈ (planRowsB cs g fs p).2, smallR r ∧ r.length = cs.length := by
  unfold planRowsB at h ⊢
  split
  · split
    · exact ⟨by simp, fun r hr => by simp at hr⟩
    · split
      · next h0 =>
        refine ⟨by simp, fun r hr => ?_⟩
        obtain rfl : r = _ := by simpa using hr
        exact rowAt_zero hc h0
      · exact ⟨by simp, fun r hr => by simp at hr⟩
  · next h1 =>
    rw [if_neg h1] at h
    split
    · split
      · split
        · exact ⟨by simp, fun r hr => by simp at hr⟩
        · next hl =>
          refine ⟨by omega, fun r hr => ?_⟩
          obtain ⟨k, hk, rfl⟩ := rowsAt_mem _ _ r hr
          exact rowAt_zero hc hk
      · exact ⟨by simp, fun r hr => by simp at hr⟩
    · next h2 =>
      rw [if_neg h2] at h
      exact rowsT_zero hc h
theorem runPB_fine {fs : List NodeD} {b : TableD} {q : QueryD} {p : PlanD} (hb : b.small) (hq : q.small) : rowsFine (runPB fs b q p).2 := by
  unfold runPB
  split
  · next h =>
    simp only [Bool.and_eq_true] at h
    obtain ⟨⟨f1, f2⟩, _⟩ := fits_facts (fitsP_facts h.2)
    split
    · next h0 =>
      obtain ⟨g1, g2⟩ := planRows_zero f2 h0
      refine ⟨?_, fun r hr => ?_⟩
      · have h1 := cut_len q.limit (sortedB b.cols q ((planRowsB b.cols b.glob fs p).2.filter (staysB b.cols q.wher)))
        have h2 := order_len b.cols q ((planRowsB b.cols b.glob fs p).2.filter (staysB b.cols q.wher))
        have h3 := List.length_filter_le (staysB b.cols q.wher) (planRowsB b.cols b.glob fs p).2
        unfold madeB
        rw [List.length_map, h1]
        split <;> omega
      · unfold madeB at hr
        obtain ⟨x, _, rfl⟩ := List.mem_map.1 hr
        unfold projB selB
        rw [List.length_map]
        have k1 := hb.2.2.1.1
        have k2 := hq.2.1.1
        split <;> omega
    · exact ⟨by simp, fun r hr => by simp at hr⟩
  · exact ⟨by simp, fun r hr => by simp at hr⟩

set_option maxRecDepth 100000 in
set_option maxHeartbeats 4000000 in
theorem specRunPlan_any (A : Option Addr) (n c : Nat) (b0 b1 b2 b3 c0 c1 c2 c3 c4 c5 e0 e1 e2 : Value) (fs : List NodeD) (b : TableD) (d : QueryD) (p : PlanD) (w : World) (ht : Nodes w w.heap.size A n fs) (hb : TableR w w.heap.size b0 b1 b2 b3 b) (h : QueryR w w.heap.size c0 c1 c2 c3 c4 c5 d) (hp : PlanR w w.heap.size e0 e1 e2 p) (hts : smallNs fs) (hbs : b.small) (hs : d.small) (hps : p.small) :
    Calls Tryz.prog 27 #[.agg #[.slice A n c], .agg #[b0, b1, b2, b3], .agg #[c0, c1, c2, c3, c4, c5], .agg #[e0, e1, e2]] w (RowsPost (runPB fs b d p) w) := by
  have HK1 := Lib.hid (fun W (hW : Below w.heap.size w W) => specTreeOk_any A n c fs W (ht.later hW) hts)
  have HK2 := Lib.hid (fun W (hW : Below w.heap.size w W) => specPlanFits_any b0 b1 b2 b3 c0 c1 c2 c3 c4 c5 e0 e1 e2 b d p W (hb.later hW) (h.later hW) (hp.later hW) hbs hs)
  have HK3 : Hid (treeB fs = true → fitsP b d p = true → ∀ W (hW : Below w.heap.size w W), Calls Tryz.prog 62 #[.agg #[.slice A n c], .agg #[b0, b1, b2, b3], .agg #[e0, e1, e2]] W (RowsPost (planRowsB b.cols b.glob fs p) W)) := fun h1 h2 W hW => by
    obtain ⟨⟨f1, f2⟩, _⟩ := fits_facts (fitsP_facts h2)
    exact l30Rows_any A n c b0 b1 b2 b3 e0 e1 e2 fs b p W (ht.later hW) (hb.later hW) (hp.later hW) hts h1 f1 f2 hps
  have HK4 : Hid (fitsP b d p = true → (planRowsB b.cols b.glob fs p).1 = 0 → ∀ W (hW : Below w.heap.size w W) v, RowsI W w.heap.size v (planRowsB b.cols b.glob fs p).2 → ∃ A4 n4 cap4, v = .slice A4 n4 cap4 ∧ Calls Tryz.prog 53 #[.agg #[b0, b1, b2, b3], .agg #[c0, c1, c2, c3, c4, c5], .slice A4 n4 cap4] W (MadePost (madeB b d (planRowsB b.cols b.glob fs p).2) W)) := fun h2 h3 W hW v hv => by
    obtain ⟨⟨f1, f2⟩, f3, f4, f4', f5, f6⟩ := fits_facts (fitsP_facts h2)
    obtain ⟨g1, g2⟩ := planRows_zero f2 h3
    obtain ⟨A4, cap4, rfl, _, hrd⟩ := rowsI_rd hv
    exact ⟨A4, _, cap4, rfl, l30Made_any A4 _ cap4 b0 b1 b2 b3 c0 c1 c2 c3 c4 c5 b d _ W (hb.later hW) (h.later hW) hrd hbs hs (fun r hr => (g2 r hr).1) g1 f3 f4 f4' f5 (fun r hr => (g2 r hr).2)⟩
  have HR : Hid (runPB fs b d p = if (treeB fs && fitsP b d p) = true then (if (planRowsB b.cols b.glob fs p).1 = 0 then (0, madeB b d (planRowsB b.cols b.glob fs p).2) else ((planRowsB b.cols b.glob fs p).1, [])) else (1, [])) := rfl
  generalize treeB fs = xt at *
  generalize fitsP b d p = xf at *
  obtain ⟨rfl, rfl, ⟨A2, n2, p2, rfl, s2, k2⟩, ⟨A3, n3, p3, rfl, s3, k3⟩⟩ := hb
  obtain ⟨rfl, ⟨B1, m1, q1, rfl, t1, l1⟩, ⟨B2, m2, q2, rfl, t2, l2⟩, rfl, rfl, rfl⟩ := h
  obtain ⟨rfl, rfl, rfl⟩ := hp
  clear s2 s3 t1 t2 ht hts hbs hs hps
  generalize runPB fs b d p = R at *
  generalize hrt : planRowsB b.cols b.glob fs p = rt at *
  clear hrt
  generalize hmd : madeB b d rt.2 = md at *
  clear hmd
  generalize b.name = nm at *
  generalize b.glob = gl at *
  generalize d.table = tb at *
  generalize d.order = od at *
  generalize d.desc = ds at *
  generalize d.limit = lm at *
  generalize p.kind = kd at *
  generalize p.col = pc at *
  generalize p.val = pv at *
  have HB0 := Lib.hid (below_new4 w (.cells #[.slice A n c] 41) (.cells #[.string nm, .string gl, .slice A2 n2 p2, .slice A3 n3 p3] 43) (.cells #[.string tb, .slice B1 m1 q1, .slice B2 m2 q2, .string od, .bool ds, .int .i64 lm] 47) (.cells #[.int .i64 kd, .string pc, .string pv] 49))
  have HX0 := Lib.hid (heap_0of4 w (.cells #[.slice A n c] 41) (.cells #[.string nm, .string gl, .slice A2 n2 p2, .slice A3 n3 p3] 43) (.cells #[.string tb, .slice B1 m1 q1, .slice B2 m2 q2, .string od, .bool ds, .int .i64 lm] 47) (.cells #[.int .i64 kd, .string pc, .string pv] 49))
  have HX1 := Lib.hid (heap_1of4 w (.cells #[.slice A n c] 41) (.cells #[.string nm, .string gl, .slice A2 n2 p2, .slice A3 n3 p3] 43) (.cells #[.string tb, .slice B1 m1 q1, .slice B2 m2 q2, .string od, .bool ds, .int .i64 lm] 47) (.cells #[.int .i64 kd, .string pc, .string pv] 49))
  have HX2 := Lib.hid (heap_2of4 w (.cells #[.slice A n c] 41) (.cells #[.string nm, .string gl, .slice A2 n2 p2, .slice A3 n3 p3] 43) (.cells #[.string tb, .slice B1 m1 q1, .slice B2 m2 q2, .string od, .bool ds, .int .i64 lm] 47) (.cells #[.int .i64 kd, .string pc, .string pv] 49))
  have HX3 := Lib.hid (heap_3of4 w (.cells #[.slice A n c] 41) (.cells #[.string nm, .string gl, .slice A2 n2 p2, .slice A3 n3 p3] 43) (.cells #[.string tb, .slice B1 m1 q1, .slice B2 m2 q2, .string od, .bool ds, .int .i64 lm] 47) (.cells #[.int .i64 kd, .string pc, .string pv] 49))
  go_enter Tryz.func27, Tryz.ntmps27
  go_wp2_with fail
  refine (HK1.out _ HB0.out).mono ?_
  rintro e w1 ⟨rfl, hb1⟩
  have HB1 := Lib.hid (HB0.out.later hb1)
  have HY0 := Lib.hid (Blk.later HX0.out hb1 (by first | (simp; done) | (simp; omega)))
  have HY1 := Lib.hid (Blk.later HX1.out hb1 (by first | (simp; done) | (simp; omega)))
  have HY2 := Lib.hid (Blk.later HX2.out hb1 (by first | (simp; done) | (simp; omega)))
  have HY3 := Lib.hid (Blk.later HX3.out hb1 (by first | (simp; done) | (simp; omega)))
  clear hb1 HX0 HX1 HX2 HX3
  cases xt
  · have HE : Hid (R = (1, [])) := by unfold Hid; rw [HR.out]; rfl
    go_wp2_with fail
    refine bodyPost_ret (v := .tuple #[.slice (some ⟨_, 0, none⟩) 0 0, .int .i64 _]) (by simp [results, Tryz.results27, go_sem]; try exact ⟨rfl, rfl⟩) rfl ?_
    exact ⟨_, by rw [HE.out], by rw [HE.out]; exact rowsI_lit _ _ HB1.out.size, HB1.out.later (Below.new _ _)⟩
  have p0 := HY0.out.cell
  have p1 := HY1.out.cell
  have p2' := HY2.out.cell
  have z2 := HY2.out.lt
  have p3' := HY3.out.cell
  have z3 := HY3.out.lt
  go_wp2_with fail
  refine (HK2.out _ HB1.out).mono ?_
  rintro e w2 ⟨rfl, hb2⟩
  have HB2 := Lib.hid (HB1.out.later hb2)
  have HZ0 := Lib.hid (HY0.out.later hb2 HY0.out.lt)
  have HZ1 := Lib.hid (HY1.out.later hb2 HY1.out.lt)
  have HZ2 := Lib.hid (HY2.out.later hb2 HY2.out.lt)
  have HZ3 := Lib.hid (HY3.out.later hb2 HY3.out.lt)
  clear hb2 p0 p1 p2' z2 p3' z3 HY0 HY1 HY2 HY3
  cases xf
  · have HE : Hid (R = (1, [])) := by unfold Hid; rw [HR.out]; rfl
    go_wp2_with fail
    refine bodyPost_ret (v := .tuple #[.slice (some ⟨_, 0, none⟩) 0 0, .int .i64 _]) (by simp [results, Tryz.results27, go_sem]; try exact ⟨rfl, rfl⟩) rfl ?_
    exact ⟨_, by rw [HE.out], by rw [HE.out]; exact rowsI_lit _ _ HB2.out.size, HB2.out.later (Below.new _ _)⟩
  have hRS : R = if rt.1 = 0 then (0, md) else (rt.1, []) := by rw [HR.out]; rfl
  have HRS := Lib.hid hRS
  have HK3' := Lib.hid (HK3.out (by first | rfl | trivial) (by first | rfl | trivial))
  have HK4' := Lib.hid (HK4.out (by first | rfl | trivial))
  clear hRS HR HK3 HK4
  have p0 := HZ0.out.cell
  have p1 := HZ1.out.cell
  have p3' := HZ3.out.cell
  go_wp2_with fail
  refine (HK3'.out _ HB2.out).mono ?_
  rintro e w3 ⟨v3, rfl, ho3, hb3⟩
  have HB3 := Lib.hid (HB2.out.later hb3)
  have HO3 := Lib.hid (ho3.base HB2.out.size)
  have HW1 := Lib.hid (HZ1.out.later hb3 HZ1.out.lt)
  have HW2 := Lib.hid (HZ2.out.later hb3 HZ2.out.lt)
  clear ho3 hb3 p0 p1 p3' HZ3 HZ0 HZ1 HZ2 HK3' HK1 HK2
  have p1 := HW1.out.cell
  have p2' := HW2.out.cell
  obtain ⟨rc, rs⟩ := rt
  by_cases h0 : rc = 0
  · have HE : Hid (R = (0, md)) := by unfold Hid; rw [HRS.out, if_pos h0]
    obtain ⟨A4, n4, cap4, rfl, hk4⟩ := HK4'.out h0 _ HB3.out _ HO3.out
    have HM := Lib.hid hk4
    clear hk4 HK4' HRS HO3
    subst h0
    go_wp2_with fail
    refine HM.out.mono ?_
    rintro e w5 ⟨v5, rfl, ho5, hb5⟩
    have HO5 := Lib.hid (ho5.base HB3.out.size)
    have HB5 := Lib.hid (HB3.out.later hb5)
    obtain ⟨A5, cap5, rfl, _⟩ := rowsI_rd ho5
    clear ho5 hb5 p1 p2' HW1 HW2
    go_wp2_with fail
    refine bodyPost_ret (v := .tuple #[.slice A5 _ cap5, .int .i64 _]) (by simp [results, Tryz.results27, go_sem]; try exact ⟨rfl, rfl⟩) rfl ?_
    exact ⟨_, by rw [HE.out], by rw [HE.out]; exact HO5.out, HB5.out⟩
  · have HE : Hid (R = (rc, [])) := by unfold Hid; rw [HRS.out, if_neg h0]
    have i1 : (rc == 0) = false := by simp [h0]
    have i2 : (rc != 0) = true := by simp [h0]
    obtain ⟨A4, cap4, rfl, _⟩ := rowsI_rd HO3.out
    clear HK4' HRS HO3 p1 p2' HW1 HW2
    go_wp2_with fail
    refine bodyPost_ret (v := .tuple #[.slice (some ⟨_, 0, none⟩) 0 0, .int .i64 _]) (by simp [results, Tryz.results27, go_sem]; try exact ⟨rfl, rfl⟩) rfl ?_
    exact ⟨_, by rw [HE.out], by rw [HE.out]; exact rowsI_lit _ _ HB3.out.size, HB3.out.later (Below.new _ _)⟩
end Go.Proofs.YtalpafaflgddpaaGreatDoor

namespace Go.Proofs.YtalpafaflgddpaaGreatDoor
open Go.RowKit
set_option linter.unusedVariables false

set_option maxRecDepth 100000 in
set_option maxHeartbeats 4000000 in
theorem rowAt_any (A : Option Addr) (n c : Nat) (b0 b1 b2 b3 : Value) (fs : List NodeD) (b : TableD) (key : ByteArray) (w : World) (ht : Nodes w w.heap.size A n fs) (hb : TableR w w.heap.size b0 b1 b2 b3 b) (hts : smallNs fs) (htr : treeB fs = true) (hpos : 0 < b.cols.length) (hn5 : b.cols.length ≤ 5) (hk : key.size ≤ 1048576) :
    Calls Tryz.prog 107 #[.agg #[.slice A n c], .agg #[b0, b1, b2, b3], .string key] w (RowAtPost (rowAtB b.cols (rowsN b.glob fs) key) w) := by
  have HK3 := Lib.hid (fun W (hW : Below w.heap.size w W) => rowNodes_any A n c b0 b1 b2 b3 fs b W (ht.later hW) (hb.later hW) hts)
  have HKU := Lib.hid (fun W (hW : Below w.heap.size w W) val hv => unpacked_any b0 b1 b2 b3 b key val W (hb.later hW) hpos hn5 hk hv)
  have HL := Lib.hid (rows_len (g := b.glob) hts)
  have HNV : Hid (∀ d ∈ rowsN b.glob fs, d.subs.length = 2 ∧ d.val.size ≤ 64) := fun d hd => ⟨rows_two d hd, val_small htr d (rows_mem hd)⟩
  have HR : Hid (rowAtB b.cols (rowsN b.glob fs) key = if idxF (keyP key) (rowsN b.glob fs) 0 < 0 then (3, []) else (codeU (unpackB b.cols key ((rowsN b.glob fs).getD (idxF (keyP key) (rowsN b.glob fs) 0).toNat default).val), (unpackB b.cols key ((rowsN b.glob fs).getD (idxF (keyP key) (rowsN b.glob fs) 0).toNat default).val).getD [])) := rfl
  obtain ⟨rfl, rfl, ⟨A2, n2, p2, rfl, s2, k2⟩, ⟨A3, n3, p3, rfl, s3, k3⟩⟩ := hb
  clear s2 s3 ht hts htr hpos hn5 hk
  generalize rowAtB b.cols (rowsN b.glob fs) key = R at *
  generalize rowsN b.glob fs = ns at *
  generalize hup : unpackB b.cols key = up at *
  clear hup
  generalize b.name = nm at *
  generalize b.glob = gl at *
  have HB0 := Lib.hid (below_new3 w (.cells #[.slice A n c] 41) (.cells #[.string nm, .string gl, .slice A2 n2 p2, .slice A3 n3 p3] 43) (.cells #[.slice none 0 0] 90))
  have HX1 := Lib.hid (heap_new1 w (.cells #[.slice A n c] 41) (.cells #[.string nm, .string gl, .slice A2 n2 p2, .slice A3 n3 p3] 43) (.cells #[.slice none 0 0] 90))
  have HX2 := Lib.hid (heap_new2 w (.cells #[.slice A n c] 41) (.cells #[.string nm, .string gl, .slice A2 n2 p2, .slice A3 n3 p3] 43) (.cells #[.slice none 0 0] 90))
  go_enter Tryz.func107, Tryz.ntmps107
  go_wp2_with fail
  refine (HK3.out _ HB0.out).mono ?_
  rintro e w3 ⟨v, ncs, rfl, ho, hc, hb3⟩
  obtain ⟨A4, cap4, rfl, _, hN4⟩ := nodes_of_row ho rfl hc hb3
  have HN4 := Lib.hid hN4
  have HB3 := Lib.hid (HB0.out.later hb3)
  have HY1 := Lib.hid (Blk.later HX1.out hb3 (by first | (simp; done) | (simp; omega)))
  have HY2 := Lib.hid (Blk.later HX2.out hb3 (by first | (simp; done) | (simp; omega)))
  have hw3 := HY1.out.lt
  have hw4 := HY2.out.lt
  clear ho hc hb3 hN4 HX1 HX2 HK3
  generalize hm : ns.length = m at *
  have HM := Lib.hid hm
  have hml : m ≤ 1048576 := HL.out
  clear hm
  go_wp2_with fail
  go_loopw [14] (fun i wr => ∃ (k : Nat), k ≤ m ∧ i = .int .i64 k ∧ Below w3.heap.size w3 wr ∧ Hid (idxF (keyP key) ns 0 = idxF (keyP key) (ns.drop k) k)) (fun i _ => m - (intOf i).toNat)
  case atStart => exact ⟨0, Nat.zero_le _, rfl, Below.refl _ _, rfl⟩
  case round =>
    obtain ⟨k, hk, rfl, hb, hS⟩ := hrel
    have HB := Lib.hid hb
    have HBw := Lib.hid (HB3.out.later hb)
    clear hb
    by_cases hlt : k < m
    · have hl : k < ns.length := by rw [HM.out]; exact hlt
      obtain ⟨bb, o, rfl, hbB, hcn⟩ := (HN4.out.later HB.out).2 (by omega)
      obtain ⟨c0, c1, c2, k0, k1, k2', hr⟩ := hcn k hlt
      clear hcn
      obtain ⟨hd2, hdv⟩ := HNV.out _ (getD_memD ns k hl)
      have HST := Lib.hid (idxF_step (keyP key) ns k hl)
      have HGD : Hid (ns.getD k default = ns.getD k default) := rfl
      clear hl
      obtain ⟨d, hd⟩ : ∃ d, d = ns.getD k default := ⟨_, rfl⟩
      rw [← hd] at hr hd2 hdv HST
      have HD := Lib.hid hd
      clear hd HGD
      obtain ⟨rfl, ⟨A1, n1, cap1, rfl, hs1, hcap1⟩, rfl⟩ := hr
      obtain rfl : n1 = 2 := by rw [← hs1.1]; exact hd2
      obtain ⟨sb, so, rfl, hsb, hsc⟩ := hs1.2 (by omega)
      have hck := hsc 1 (by omega)
      have HKK := Lib.hid (fun W hW => HKU.out W hW d.val hdv)
      have HKP : Hid (keyP key d = decide (d.subs.getD 1 ByteArray.empty = key)) := rfl
      have HVL : Hid (ns.getD k default = d) := HD.out.symm
      clear hsc hs1 hdv hd2 HD
      have y0 := (HY1.out.later HB.out hw3).cell 0
      have y1 := (HY1.out.later HB.out hw3).cell 1
      have y2 := (HY1.out.later HB.out hw3).cell 2
      have y3 := (HY1.out.later HB.out hw3).cell 3
      simp at y0 y1 y2 y3
      have hz1 := (HY1.out.later HB.out hw3).lt
      have i1 : (k : Int) < (m : Int) := by omega
      generalize keyP key d = kp at *
      generalize d.subs.getD 1 ByteArray.empty = kk at *
      have HVV : Hid ((ns.getD k default).val = d.val) := by unfold Hid; rw [HVL.out]
      clear HVL
      generalize d.val = val at *
      generalize d.name = dn at *
      have HBq := Lib.hid (Below.new wr (.cells #[.string dn, .slice (some ⟨sb, so, none⟩) 2 cap1, .string val] 78))
      have HNB : Hid (Blk (wr.alloc (.cells #[.string dn, .slice (some ⟨sb, so, none⟩) 2 cap1, .string val] 78)) wr.heap.size 78 #[.string dn, .slice (some ⟨sb, so, none⟩) 2 cap1, .string val]) := heap_last rfl
      have z0 := HBw.out.size
      have hck' := cell_later HBq.out hck
      by_cases hkey : kk = key
      · obtain rfl : kp = true := by rw [HKP.out, decide_eq_true hkey]
        have HE : Hid (R = (codeU (up val), (up val).getD [])) := by
          unfold Hid
          rw [HR.out, hS.out, HST.out, if_pos rfl, if_neg (by omega)]
          simp only [Int.toNat_natCast]
          rw [HVV.out]
        subst hkey
        clear HKP HST hS HR
        generalize up val = o' at *
        go_wp2_with fail
        refine (HKK.out _ (HBw.out.later HBq.out)).mono ?_
        rintro e w4 ⟨v', rfl, hsub, hb4⟩
        obtain ⟨AC, cc, rfl, hcc, hmc, hac⟩ := Own.own_slice hsub
        have HSUB := Lib.hid hsub
        have HB4 := Lib.hid ((HBw.out.later HBq.out).later hb4)
        have HQ := Lib.hid ((HY2.out.later HB.out hw4).later (HBq.out.later hb4) (HY2.out.later HB.out hw4).lt)
        have q0 := HQ.out.cell 0
        have qf := HQ.out.frozen 0
        have qz := HQ.out.lt
        simp at q0
        clear hsub hb4 hac
        have z4 := (HBw.out.later HBq.out).size
        go_wp2_with fail
        refine bodyPost_ret (v := .tuple #[.agg #[.slice AC _ cc], .int .i64 _]) (by simp [results, Tryz.results107, go_sem, q0]; try first | exact rfl | exact ⟨rfl, rfl⟩) rfl ?_
        rw [HE.out]
        refine ⟨_, rfl, ?_, HB4.out.setCell (by first | (simp; done) | (simp; omega) | (show w.heap.size ≤ _; omega)) _⟩
        have hS2 := Own.own_base HSUB.out (base := w.heap.size) z4
        exact World.ownsRow.kept hS2 (row := some (w.heap.size + 1 + 1)) (Own.grown_set _ _ _ _) (.inr (fun e => by have h1 := (HSUB.out.lt _ e).1; have h2 := hw4; have h3 := HB.out.size; simp at h1; omega))
      · obtain rfl : kp = false := by rw [HKP.out, decide_eq_false hkey]
        have hS2 : Hid (idxF (keyP key) ns 0 = idxF (keyP key) (ns.drop (k + 1)) (k + 1)) := by unfold Hid; rw [hS.out, HST.out]; rfl
        clear HKP HST hS HR
        have j1 := str_beq hkey
        go_wp2_with fail
        go_roundw
        case rel => exact ⟨k + 1, by omega, by go_num, HB.out.later HBq.out, hS2.out⟩
        case measure => simp [intOf]; omega
    · have HE : Hid (R = (3, [])) := by
        unfold Hid
        rw [HR.out, hS.out, List.drop_of_length_le (by rw [HM.out]; omega)]
        rfl
      have HQ := Lib.hid (HY2.out.later HB.out hw4)
      have q0 := HQ.out.cell 0
      have qf := HQ.out.frozen 0
      have qz := HQ.out.lt
      simp at q0
      clear HR hS HKU HNV
      go_wp2_with fail
      refine bodyPost_ret (v := .tuple #[.agg #[.slice none 0 0], .int .i64 3]) (by simp [results, Tryz.results107, go_sem, q0]) rfl ?_
      rw [HE.out]
      exact ⟨_, rfl, Own.sub_nil _ _, HBw.out.setCell (by first | (simp; done) | (simp; omega) | (show w.heap.size ≤ _; omega)) _⟩
end Go.Proofs.YtalpafaflgddpaaGreatDoor

namespace Go.Proofs.YtalpafaflgddpaaGreatDoor
open Go.RowKit
set_option linter.unusedVariables false

/-- The rows with keys, where a lost key counts for nothing if one is looked for. -/
def rowsK (kd : Int) (f : ByteArray → Int × List ByteArray) : List ByteArray → Int × List (List ByteArray)
  | [] => (0, [])
  | k :: r => if (f k).1 = 3 ∧ kd = 1 then rowsK kd f r else if (f k).1 = 0 then (if (rowsK kd f r).1 = 0 then (0, (f k).2 :: (rowsK kd f r).2) else ((rowsK kd f r).1, [])) else ((f k).1, [])
theorem rowsK_skip (kd : Int) (f : ByteArray → Int × List ByteArray) (ks : List ByteArray) (k : Nat) (acc : List (List ByteArray)) (h : k < ks.length) (hf : (f (ks.getD k ByteArray.empty)).1 = 3) (hk : kd = 1) : joinR acc (rowsK kd f (ks.drop k)) = joinR acc (rowsK kd f (ks.drop (k + 1))) := by
  rw [List.getD_eq_getElem?_getD, List.getElem?_eq_getElem h] at hf
  simp only [Option.getD_some] at hf
  rw [List.drop_eq_getElem_cons h, rowsK, if_pos ⟨hf, hk⟩]
theorem rowsK_bad (kd : Int) (f : ByteArray → Int × List ByteArray) (ks : List ByteArray) (k : Nat) (acc : List (List ByteArray)) (h : k < ks.length) (hn : ¬ ((f (ks.getD k ByteArray.empty)).1 = 3 ∧ kd = 1)) (hf : (f (ks.getD k ByteArray.empty)).1 ≠ 0) : joinR acc (rowsK kd f (ks.drop k)) = ((f (ks.getD k ByteArray.empty)).1, []) := by
  rw [List.getD_eq_getElem?_getD, List.getElem?_eq_getElem h] at hf hn ⊢
  simp only [Option.getD_some] at hf hn ⊢
  rw [List.drop_eq_getElem_cons h, rowsK, if_neg hn, if_neg hf]
  unfold joinR
  rw [if_neg hf]
theorem rowsK_ok (kd : Int) (f : ByteArray → Int × List ByteArray) (ks : List ByteArray) (k : Nat) (acc : List (List ByteArray)) (h : k < ks.length) (hf : (f (ks.getD k ByteArray.empty)).1 = 0) : joinR acc (rowsK kd f (ks.drop k)) = joinR (acc ++ [(f (ks.getD k ByteArray.empty)).2]) (rowsK kd f (ks.drop (k + 1))) := by
  rw [List.getD_eq_getElem?_getD, List.getElem?_eq_getElem h] at hf ⊢
  simp only [Option.getD_some] at hf ⊢
  rw [List.drop_eq_getElem_cons h, rowsK, if_neg (by rw [hf]; omega), if_pos hf]
  unfold joinR
  by_cases h0 : (rowsK kd f (ks.drop (k + 1))).1 = 0
  · rw [if_pos h0, if_pos rfl, if_pos h0]
    simp
  · rw [if_neg h0, if_neg h0, if_neg h0]
theorem rowsK_end (kd : Int) (f : ByteArray → Int × List ByteArray) (ks : List ByteArray) (acc : List (List ByteArray)) : joinR acc (rowsK kd f (ks.drop ks.length)) = (0, acc) := by
  rw [List.drop_length]
  simp [joinR, rowsK]
theorem rowsK_start (kd : Int) (f : ByteArray → Int × List ByteArray) : ∀ ks : List ByteArray, rowsK kd f ks = joinR [] (rowsK kd f ks)
  | [] => rfl
  | k :: r => by
    rw [rowsK]
    split
    · exact rowsK_start kd f r
    · split
      · split
        · simp [joinR]
        · next h => simp [joinR, h]
      · next h => simp [joinR, h]
theorem rowsK_two (f : ByteArray → Int × List ByteArray) : ∀ ks : List ByteArray, rowsK 2 f ks = rowsAtB f ks
  | [] => rfl
  | k :: r => by
    rw [rowsK, rowsAtB, rowsK_two f r, if_neg (by omega)]
def capR (r : Int × List (List ByteArray)) : Int × List (List ByteArray) := if r.1 = 0 then (if 24 < r.2.length then (4, []) else r) else (r.1, [])
theorem plan_one (cs : List ByteArray) (g : ByteArray) (fs : List NodeD) (p : PlanD) (h : p.kind = 1) : planRowsB cs g fs p = capR (rowsK 1 (rowAtB cs (rowsN g fs)) [p.val]) := by
  unfold planRowsB capR
  rw [if_pos h]
  simp only [rowsK]
  generalize rowAtB cs (rowsN g fs) p.val = r
  by_cases h3 : r.1 = 3 <;> by_cases h0 : r.1 = 0 <;> simp [h3, h0]
theorem plan_two (cs : List ByteArray) (g : ByteArray) (fs : List NodeD) (p : PlanD) (h : p.kind = 2) : planRowsB cs g fs p = capR (rowsK 2 (rowAtB cs (rowsN g fs)) (keysN g p.col p.val fs)) := by
  unfold planRowsB capR
  rw [if_neg (by omega), if_pos h, rowsK_two]
theorem plan_three (cs : List ByteArray) (g : ByteArray) (fs : List NodeD) (p : PlanD) (h : p.kind = 3) : planRowsB cs g fs p = rowsT cs (rowsN g fs) := by
  unfold planRowsB
  rw [if_neg (by omega), if_neg (by omega)]
theorem plan_kinds {b : TableD} {q : QueryD} {p : PlanD} (h : fitsP b q p = true) : p.kind = 1 ∨ p.kind = 2 ∨ p.kind = 3 := by
  unfold fitsP at h
  rw [Bool.and_eq_true] at h
  have h2 := h.2
  unfold planB at h2
  split at h2
  · next h3 => exact .inr (.inr h3)
  · split at h2
    · next h1 => exact .inl h1
    · split at h2
      · next hk => exact .inr (.inl hk)
      · simp at h2
end Go.Proofs.YtalpafaflgddpaaGreatDoor

namespace Go.Proofs.YtalpafaflgddpaaGreatDoor
open Go.RowKit
set_option linter.unusedVariables false

set_option maxRecDepth 100000 in
set_option maxHeartbeats 4000000 in
theorem planRows_any (A : Option Addr) (n c : Nat) (b0 b1 b2 b3 e0 e1 e2 : Value) (fs : List NodeD) (b : TableD) (p : PlanD) (w : World) (ht : Nodes w w.heap.size A n fs) (hb : TableR w w.heap.size b0 b1 b2 b3 b) (hp : PlanR w w.heap.size e0 e1 e2 p) (hts : smallNs fs) (htr : treeB fs = true) (hpos : 0 < b.cols.length) (hn5 : b.cols.length ≤ 5) (hkd : p.kind = 1 ∨ p.kind = 2 ∨ p.kind = 3) (hps : p.small) :
    Calls Tryz.prog 63 #[.agg #[.slice A n c], .agg #[b0, b1, b2, b3], .agg #[e0, e1, e2]] w (RowsPost (planRowsB b.cols b.glob fs p) w) := by
  obtain ⟨i0, hi, hz0, hz1, hz2⟩ := info_parts infoRowD
  have HKA := Lib.hid (fun W (hW : Below w.heap.size w W) key hk => rowAt_any A n c b0 b1 b2 b3 fs b key W (ht.later hW) (hb.later hW) hts htr hpos hn5 hk)
  have HKK := Lib.hid (fun W (hW : Below w.heap.size w W) => keysBy_any A n c b0 b1 b2 b3 fs b p.col p.val W (ht.later hW) (hb.later hW) hts)
  have HKR := Lib.hid (fun W (hW : Below w.heap.size w W) => rowsOf_any A n c b0 b1 b2 b3 fs b W (ht.later hW) (hb.later hW) hts htr hpos hn5)
  have HPV := Lib.hid (hps.2)
  have HKL : Hid ((keysN b.glob p.col p.val fs).length ≤ 1048576) := keys_len hts
  have HK2 : Hid (∀ s ∈ keysN b.glob p.col p.val fs, s.size ≤ 1048576) := keys_small hts
  have HR1 := Lib.hid (plan_one b.cols b.glob fs p)
  have HR2 := Lib.hid (plan_two b.cols b.glob fs p)
  have HR3 := Lib.hid (plan_three b.cols b.glob fs p)
  obtain ⟨rfl, rfl, ⟨A2, n2, p2, rfl, s2, k2⟩, ⟨A3, n3, p3, rfl, s3, k3⟩⟩ := hb
  obtain ⟨rfl, rfl, rfl⟩ := hp
  clear s2 s3 ht hts htr hpos hn5 hps
  generalize planRowsB b.cols b.glob fs p = R at *
  generalize rowsT b.cols (rowsN b.glob fs) = RT at *
  generalize rowAtB b.cols (rowsN b.glob fs) = ra at *
  generalize keysN b.glob p.col p.val fs = kz at *
  generalize b.name = nm at *
  generalize b.glob = gl at *
  generalize p.kind = kd at *
  generalize p.col = pc at *
  generalize p.val = pv at *
  have HB0 := Lib.hid (below_new4 w (.cells #[.slice A n c] 41) (.cells #[.string nm, .string gl, .slice A2 n2 p2, .slice A3 n3 p3] 43) (.cells #[.int .i64 kd, .string pc, .string pv] 49) (.cells #[.string pv] 9))
  have HX0 := Lib.hid (heap_0of4 w (.cells #[.slice A n c] 41) (.cells #[.string nm, .string gl, .slice A2 n2 p2, .slice A3 n3 p3] 43) (.cells #[.int .i64 kd, .string pc, .string pv] 49) (.cells #[.string pv] 9))
  have HX1 := Lib.hid (heap_1of4 w (.cells #[.slice A n c] 41) (.cells #[.string nm, .string gl, .slice A2 n2 p2, .slice A3 n3 p3] 43) (.cells #[.int .i64 kd, .string pc, .string pv] 49) (.cells #[.string pv] 9))
  have HX2 := Lib.hid (heap_2of4 w (.cells #[.slice A n c] 41) (.cells #[.string nm, .string gl, .slice A2 n2 p2, .slice A3 n3 p3] 43) (.cells #[.int .i64 kd, .string pc, .string pv] 49) (.cells #[.string pv] 9))
  have HX3 := Lib.hid (heap_3of4 w (.cells #[.slice A n c] 41) (.cells #[.string nm, .string gl, .slice A2 n2 p2, .slice A3 n3 p3] 43) (.cells #[.int .i64 kd, .string pc, .string pv] 49) (.cells #[.string pv] 9))
  go_enter Tryz.func63, Tryz.ntmps63
  rcases hkd with h1 | h2 | h3
  · have HR : Hid (R = capR (rowsK 1 ra [pv])) := HR1.out h1
    subst h1
    have HKZ : Hid (∀ s ∈ [pv], s.size ≤ 1048576) := fun s hs => (List.mem_singleton.1 hs) ▸ HPV.out
    have HKS0 : Hid (Strs ((((w.alloc (.cells #[.slice A n c] 41)).alloc (.cells #[.string nm, .string gl, .slice A2 n2 p2, .slice A3 n3 p3] 43)).alloc (.cells #[.int .i64 1, .string pc, .string pv] 49)).alloc (.cells #[.string pv] 9)) ((((w.alloc (.cells #[.slice A n c] 41)).alloc (.cells #[.string nm, .string gl, .slice A2 n2 p2, .slice A3 n3 p3] 43)).alloc (.cells #[.int .i64 1, .string pc, .string pv] 49)).alloc (.cells #[.string pv] 9)).heap.size (some ⟨w.heap.size + 1 + 1 + 1, 0, none⟩) 1 [pv]) := Blk.strs (ss := [pv]) HX3.out
    clear HR1 HR2 HR3 HKK HKR HK2
    obtain ⟨w3, hw3⟩ : ∃ w3, w3 = ((((w.alloc (.cells #[.slice A n c] 41)).alloc (.cells #[.string nm, .string gl, .slice A2 n2 p2, .slice A3 n3 p3] 43)).alloc (.cells #[.int .i64 1, .string pc, .string pv] 49)).alloc (.cells #[.string pv] 9)) := ⟨_, rfl⟩
    go_upto_region 7 with fail
    rw [← hw3] at HKS0 HB0 HX0 HX1 HX2 ⊢
    clear hw3 HX3
    have HB3 := HB0
    have HY0 : Hid (Blk w3 w.heap.size 41 #[.slice A n c]) := HX0.out
    have HY1 : Hid (Blk w3 (w.heap.size + 1) 43 #[.string nm, .string gl, .slice A2 n2 p2, .slice A3 n3 p3]) := HX1.out
    have HY2 : Hid (Blk w3 (w.heap.size + 1 + 1) 49 #[.int .i64 1, .string pc, .string pv]) := HX2.out
    have HKS := HKS0
    clear HB0 HX0 HX1 HX2 HKS0
    obtain ⟨ks, hks⟩ : ∃ ks, ks = [pv] := ⟨_, rfl⟩
    have hm : ks.length = 1 := by rw [hks]; rfl
    rw [← hks] at HR HKZ HKS
    clear hks
    have HM := Lib.hid hm
    clear hm
    have HS0 : Hid (rowsK 1 ra ks = joinR [] (rowsK 1 ra (ks.drop 0))) := rowsK_start 1 ra ks
    have zw := HB3.out.size
    go_wp2_with fail
    go_loopw [9, 38] (fun v i wr => ∃ (k : Nat) (acc : List (List ByteArray)), k ≤ 1 ∧ i = .int .i64 k ∧ Hid (acc.length ≤ k) ∧ RowsI wr w3.heap.size v acc ∧ Below w3.heap.size w3 wr ∧ Hid (rowsK 1 ra ks = joinR acc (rowsK 1 ra (ks.drop k)))) (fun _ i _ => 1 - (intOf i).toNat)
    case atStart => exact ⟨0, [], Nat.zero_le _, rfl, Nat.le_refl 0, rowsI_lit w3 _ (Nat.le_refl _), Below.new _ _, HS0.out⟩
    case round =>
      obtain ⟨k, acc, hk, rfl, hacc, hrows, hb, hS⟩ := hrel
      have HB := Lib.hid hb
      obtain ⟨vs, hrows⟩ := hrows
      have HRW := Lib.hid hrows
      have HBw := Lib.hid (HB3.out.later hb)
      clear hb hrows
      have y0 := (HY0.out.later HB.out HY0.out.lt).cell 0
      have x0 := (HY1.out.later HB.out HY1.out.lt).cell 0
      have x1 := (HY1.out.later HB.out HY1.out.lt).cell 1
      have x2 := (HY1.out.later HB.out HY1.out.lt).cell 2
      have x3 := (HY1.out.later HB.out HY1.out.lt).cell 3
      simp at y0 x0 x1 x2 x3
      by_cases hlt : k < 1
      · have hl : k < ks.length := by rw [HM.out]; exact hlt
        obtain ⟨kb, ko, ekb, hkb, hkc2⟩ := (HKS.out.later HB.out).2 (by omega)
        cases ekb
        have hck := hkc2 k (by omega)
        try simp only [Nat.zero_add] at hck
        have HN := Lib.hid (rowsK_bad 1 ra ks k acc hl)
        have HSo := Lib.hid (rowsK_ok 1 ra ks k acc hl)
        have HSk := Lib.hid (rowsK_skip 1 ra ks k acc hl)
        have HKK := Lib.hid (fun W hW => HKA.out W hW (ks.getD k ByteArray.empty) (HKZ.out _ (getD_memS _ _ hl)))
        clear hl hkc2 HKA HS0
        generalize ks.getD k ByteArray.empty = key at *
        generalize ra key = r at *
        obtain ⟨rc, rr⟩ := r
        have i1 : (k : Int) < (1 : Int) := by omega
        go_wp2_with fail
        refine (HKK.out _ HBw.out).mono ?_
        rintro e w4 ⟨v', rfl, hsub, hb4⟩
        obtain ⟨AC, cc, rfl, hcc, hmc, hac⟩ := Own.own_slice hsub
        have HBZ := Lib.hid (hb4.later (Below.new w4 (.cells #[(.slice AC rr.length cc)] 90)))
        have HQ5 : Hid (Blk (w4.alloc (.cells #[(.slice AC rr.length cc)] 90)) w4.heap.size 90 #[(.slice AC rr.length cc)]) := heap_last rfl
        have HS5 : Hid (Own.SubO (w4.alloc (.cells #[(.slice AC rr.length cc)] 90)) wr.heap.size (.slice AC rr.length cc) rr) := Own.own_later hsub (Below.new _ _)
        have HAPB : wr.heap.size ≤ wr.heap.size := Nat.le_refl _
        obtain ⟨W5, hW5⟩ : ∃ W5, W5 = w4.alloc (.cells #[(.slice AC rr.length cc)] 90) := ⟨_, rfl⟩
        obtain ⟨gb, hgb⟩ : ∃ gb, gb = w4.heap.size := ⟨_, rfl⟩
        have HWK := Lib.hid (show W5 = w4.alloc (.cells #[(.slice AC rr.length cc)] 90) ∧ gb = w4.heap.size from ⟨hW5, hgb⟩)
        rw [← hW5, ← hgb] at HQ5
        rw [← hW5] at HBZ HS5
        have HB5 := Lib.hid (HB.out.later HBZ.out)
        have HBv := Lib.hid (HB3.out.later HB5.out)
        have HRW5 := Lib.hid (HRW.out.later HBZ.out)
        have q5 := HQ5.out.cell 0
        have qz5 := HQ5.out.lt
        simp at q5
        have z35 := HB5.out.size
        have z36 := HB.out.size
        have hp0 := (HY2.out.later HB5.out HY2.out.lt).cell 0
        simp at hp0
        clear hsub hb4 hac y0 x0 x1 x2 x3 hck
        by_cases h3 : rc = 3
        · have HE : Hid (rowsK 1 ra ks = joinR acc (rowsK 1 ra (ks.drop (k + 1)))) := by
            unfold Hid
            exact hS.out.trans (HSk.out h3 (by first | trivial | rfl))
          subst h3
          subst hW5 hgb
          clear HKS HR q5 qz5
          go_wp2_with fail
          go_roundw
          case rel => exact ⟨k + 1, acc, by omega, by go_num, by have h := hacc.out; unfold Hid; omega, ⟨vs, HRW5.out⟩, HB5.out, HE.out⟩
          case measure => simp [intOf]; omega
        · have j3 := int_beq h3
          by_cases h0 : rc = 0
          · have HE : Hid (rowsK 1 ra ks = joinR (acc ++ [rr]) (rowsK 1 ra (ks.drop (k + 1)))) := by
              unfold Hid
              exact hS.out.trans (HSo.out h0)
            subst h0
            have HO := Lib.hid HRW5.out
            have HAP := Lib.hid (Own.OwnL.fresh HRW.out HS5.out HAPB)
            have hrow : Hid (∀ oo, (W5.alloc oo).ownsRow w3.heap.size 90 1 u9 acc.length (Own.flat rowK acc vs)) := fun oo => Own.own_later HO.out.row (Below.new _ _)
            have hx5 : Own.SubO W5 w3.heap.size (.slice AC rr.length cc) rr := Own.own_base HS5.out (by omega)
            have HX5 := Lib.hid hx5
            have hal := hacc.out
            clear hx5 HR HKS h3
            subst hW5 hgb
            have z38 : w3.heap.size ≤ w4.heap.size + 1 := by simpa using z35
            go_wp2_with (at_builtin; refine wpList_append_own _ rfl (.tmp 49) (.tmp 51) 55 rfl w3.heap.size 90 i0 _ 1 24 Tryz.underlying55 hi hz0 hz1 hz2 rfl (by decide) _ acc.length _ rfl (hrow.out _) ⟨_, 0, none⟩ 1 1 [(.slice AC rr.length cc)] rfl rfl ?n11 ?n12 ?n13 ?n14 ?n15 ?_)
            all_goals try (first | exact cells_atN _ #[(.slice AC rr.length cc)] _ _ (by simp) | (simp [Value.oneCell']; done) | (unfold maxLen; omega) | omega | (simp; omega))
            intro v1 w6 hown1 hg1 _
            have HN6 : Hid (RowsI w6 w3.heap.size v1 (acc ++ [rr])) := by
              have hX6 : Own.SubO (_root_.Go.World.alloc (w4.alloc (.cells #[(.slice AC rr.length cc)] 90)) (.cells #[(.slice AC rr.length cc)] 90)) w3.heap.size (.slice AC rr.length cc) rr := Own.own_later HX5.out (Below.new _ _)
              refine ⟨vs ++ [(.slice AC rr.length cc)], Own.OwnL.snoc (HO.out.later (Below.new (w4.alloc (.cells #[(.slice AC rr.length cc)] 90)) (.cells #[(.slice AC rr.length cc)] 90))) hX6 HAP.out ?_ hg1 (by decide)⟩
              show w6.ownsRow w3.heap.size 90 1 v1 (acc.length + 1) (Own.flat rowK acc vs ++ [(.slice AC rr.length cc)])
              exact hown1
            have HB6 := Lib.hid ((HB5.out.later (Below.new (w4.alloc (.cells #[(.slice AC rr.length cc)] 90)) (.cells #[(.slice AC rr.length cc)] 90))).grown hg1 (by simp; omega) (fun g hg' => ((hrow.out (.cells #[] 0)).lt g hg').1))
            clear hown1 hg1 hal
            go_wp2_with fail
            go_roundw
            case rel => exact ⟨k + 1, acc ++ [rr], by omega, by go_num, by have h := hacc.out; unfold Hid; simp; omega, HN6.out, HB6.out, HE.out⟩
            case measure => simp [intOf]; omega
          · have HE : Hid (R = (rc, [])) := by
              unfold Hid
              rw [HR.out, hS.out.trans (HN.out (fun e => h3 e.1) h0), capR, if_neg (by exact h0)]
            have j2 := int_beq h0
            have j4 : (rc != 0) = true := by simp [h0]
            subst hW5 hgb
            clear HKS HR q5 qz5
            go_wp2_with fail
            refine bodyPost_ret (v := .tuple #[.slice none 0 0, .int .i64 _]) (by simp [results, Tryz.results63, go_sem]; try first | exact rfl | exact ⟨rfl, rfl⟩) rfl ?_
            exact ⟨_, by rw [HE.out], by rw [HE.out]; exact ⟨[], Own.OwnL.nil _ _ _⟩, HBv.out⟩
      · obtain rfl : k = 1 := by omega
        have hS2 := rowsK_end 1 ra ks acc
        rw [HM.out] at hS2
        have HF : Hid (R = if 24 < acc.length then (4, []) else (0, acc)) := by unfold Hid; rw [HR.out, hS.out.trans hS2, capR]; rfl
        obtain ⟨A7, cap7, rfl, _⟩ := Own.own_slice HRW.out.row
        have HRI : Hid (RowsI wr w.heap.size (.slice A7 acc.length cap7) acc) := RowsI.base ⟨vs, HRW.out⟩ HB3.out.size
        have hal := hacc.out
        clear hS hS2 HR HKS HS0 HRW y0 x0 x1 x2 x3
        generalize hac : acc.length = al at *
        by_cases hbig : 24 < al
        · exact absurd hbig (by omega)
        · have HE : Hid (R = (0, acc)) := by unfold Hid; rw [HF.out, if_neg hbig]
          clear hac
          go_wp2_with fail
          refine bodyPost_ret (v := .tuple #[.slice A7 _ cap7, .int .i64 _]) (by simp [results, Tryz.results63, go_sem]; try first | exact rfl | exact ⟨rfl, rfl⟩) rfl ?_
          exact ⟨_, by rw [HE.out], by rw [HE.out]; exact HRI.out, HBw.out⟩
  · have HR : Hid (R = capR (rowsK 2 ra kz)) := HR2.out h2
    subst h2
    have HKZ := HK2
    go_wp2_with fail
    refine (HKK.out _ HB0.out).mono ?_
    rintro e w3 ⟨v3, rfl, hs3, hb3⟩
    obtain ⟨KA, kcap, rfl, hkc, hkS⟩ := hs3.strs
    have HKS := Lib.hid hkS
    have HB3 := Lib.hid (HB0.out.later hb3)
    have HY0 := Lib.hid (Blk.later HX0.out hb3 (by first | (simp; done) | (simp; omega)))
    have HY1 := Lib.hid (Blk.later HX1.out hb3 (by first | (simp; done) | (simp; omega)))
    have HY2 := Lib.hid (Blk.later HX2.out hb3 (by first | (simp; done) | (simp; omega)))
    clear hs3 hb3 HKK HKR hkS HX0 HX1 HX2 HX3 HR1 HR2 HR3 HK2 HPV HB0
    obtain ⟨ks, hks⟩ : ∃ ks, ks = kz := ⟨_, rfl⟩
    subst hks
    generalize hm : ks.length = m at *
    have HM := Lib.hid hm
    have hml : m ≤ 1048576 := HKL.out
    clear hm
    have HS0 : Hid (rowsK 2 ra ks = joinR [] (rowsK 2 ra (ks.drop 0))) := rowsK_start 2 ra ks
    have zw := HB3.out.size
    go_wp2_with fail
    go_loopw [9, 38] (fun v i wr => ∃ (k : Nat) (acc : List (List ByteArray)), k ≤ m ∧ i = .int .i64 k ∧ Hid (acc.length ≤ k) ∧ RowsI wr w3.heap.size v acc ∧ Below w3.heap.size w3 wr ∧ Hid (rowsK 2 ra ks = joinR acc (rowsK 2 ra (ks.drop k)))) (fun _ i _ => m - (intOf i).toNat)
    case atStart => exact ⟨0, [], Nat.zero_le _, rfl, Nat.le_refl 0, rowsI_lit w3 _ (Nat.le_refl _), Below.new _ _, HS0.out⟩
    case round =>
      obtain ⟨k, acc, hk, rfl, hacc, hrows, hb, hS⟩ := hrel
      have HB := Lib.hid hb
      obtain ⟨vs, hrows⟩ := hrows
      have HRW := Lib.hid hrows
      have HBw := Lib.hid (HB3.out.later hb)
      clear hb hrows
      have y0 := (HY0.out.later HB.out HY0.out.lt).cell 0
      have x0 := (HY1.out.later HB.out HY1.out.lt).cell 0
      have x1 := (HY1.out.later HB.out HY1.out.lt).cell 1
      have x2 := (HY1.out.later HB.out HY1.out.lt).cell 2
      have x3 := (HY1.out.later HB.out HY1.out.lt).cell 3
      simp at y0 x0 x1 x2 x3
      by_cases hlt : k < m
      · have hl : k < ks.length := by rw [HM.out]; exact hlt
        obtain ⟨kb, ko, ekb, hkb, hkc2⟩ := (HKS.out.later HB.out).2 (by omega)
        cases ekb
        have hck := hkc2 k (by omega)
        try simp only [Nat.zero_add] at hck
        have HN := Lib.hid (rowsK_bad 2 ra ks k acc hl)
        have HSo := Lib.hid (rowsK_ok 2 ra ks k acc hl)
        have HSk := Lib.hid (rowsK_skip 2 ra ks k acc hl)
        have HKK := Lib.hid (fun W hW => HKA.out W hW (ks.getD k ByteArray.empty) (HKZ.out _ (getD_memS _ _ hl)))
        clear hl hkc2 HKA HS0
        generalize ks.getD k ByteArray.empty = key at *
        generalize ra key = r at *
        obtain ⟨rc, rr⟩ := r
        have i1 : (k : Int) < (m : Int) := by omega
        go_wp2_with fail
        refine (HKK.out _ HBw.out).mono ?_
        rintro e w4 ⟨v', rfl, hsub, hb4⟩
        obtain ⟨AC, cc, rfl, hcc, hmc, hac⟩ := Own.own_slice hsub
        have HBZ := Lib.hid (hb4.later (Below.new w4 (.cells #[(.slice AC rr.length cc)] 90)))
        have HQ5 : Hid (Blk (w4.alloc (.cells #[(.slice AC rr.length cc)] 90)) w4.heap.size 90 #[(.slice AC rr.length cc)]) := heap_last rfl
        have HS5 : Hid (Own.SubO (w4.alloc (.cells #[(.slice AC rr.length cc)] 90)) wr.heap.size (.slice AC rr.length cc) rr) := Own.own_later hsub (Below.new _ _)
        have HAPB : wr.heap.size ≤ wr.heap.size := Nat.le_refl _
        obtain ⟨W5, hW5⟩ : ∃ W5, W5 = w4.alloc (.cells #[(.slice AC rr.length cc)] 90) := ⟨_, rfl⟩
        obtain ⟨gb, hgb⟩ : ∃ gb, gb = w4.heap.size := ⟨_, rfl⟩
        have HWK := Lib.hid (show W5 = w4.alloc (.cells #[(.slice AC rr.length cc)] 90) ∧ gb = w4.heap.size from ⟨hW5, hgb⟩)
        rw [← hW5, ← hgb] at HQ5
        rw [← hW5] at HBZ HS5
        have HB5 := Lib.hid (HB.out.later HBZ.out)
        have HBv := Lib.hid (HB3.out.later HB5.out)
        have HRW5 := Lib.hid (HRW.out.later HBZ.out)
        have q5 := HQ5.out.cell 0
        have qz5 := HQ5.out.lt
        simp at q5
        have z35 := HB5.out.size
        have z36 := HB.out.size
        have hp0 := (HY2.out.later HB5.out HY2.out.lt).cell 0
        simp at hp0
        clear hsub hb4 hac y0 x0 x1 x2 x3 hck
        by_cases h3 : rc = 3
        · have HE : Hid (R = (rc, [])) := by
            unfold Hid
            rw [HR.out, hS.out.trans (HN.out (by simp) (by simp [h3])), capR, if_neg (by simp [h3])]
          subst h3
          subst hW5 hgb
          clear HKS HR q5 qz5
          go_wp2_with fail
          refine bodyPost_ret (v := .tuple #[.slice none 0 0, .int .i64 _]) (by simp [results, Tryz.results63, go_sem]; try first | exact rfl | exact ⟨rfl, rfl⟩) rfl ?_
          exact ⟨_, by rw [HE.out], by rw [HE.out]; exact ⟨[], Own.OwnL.nil _ _ _⟩, HBv.out⟩
        · have j3 := int_beq h3
          by_cases h0 : rc = 0
          · have HE : Hid (rowsK 2 ra ks = joinR (acc ++ [rr]) (rowsK 2 ra (ks.drop (k + 1)))) := by
              unfold Hid
              exact hS.out.trans (HSo.out h0)
            subst h0
            have HO := Lib.hid HRW5.out
            have HAP := Lib.hid (Own.OwnL.fresh HRW.out HS5.out HAPB)
            have hrow : Hid (∀ oo, (W5.alloc oo).ownsRow w3.heap.size 90 1 u9 acc.length (Own.flat rowK acc vs)) := fun oo => Own.own_later HO.out.row (Below.new _ _)
            have hx5 : Own.SubO W5 w3.heap.size (.slice AC rr.length cc) rr := Own.own_base HS5.out (by omega)
            have HX5 := Lib.hid hx5
            have hal := hacc.out
            clear hx5 HR HKS h3
            subst hW5 hgb
            have z38 : w3.heap.size ≤ w4.heap.size + 1 := by simpa using z35
            go_wp2_with (at_builtin; refine wpList_append_own _ rfl (.tmp 49) (.tmp 51) 55 rfl w3.heap.size 90 i0 _ 1 24 Tryz.underlying55 hi hz0 hz1 hz2 rfl (by decide) _ acc.length _ rfl (hrow.out _) ⟨_, 0, none⟩ 1 1 [(.slice AC rr.length cc)] rfl rfl ?n21 ?n22 ?n23 ?n24 ?n25 ?_)
            all_goals try (first | exact cells_atN _ #[(.slice AC rr.length cc)] _ _ (by simp) | (simp [Value.oneCell']; done) | (unfold maxLen; omega) | omega | (simp; omega))
            intro v1 w6 hown1 hg1 _
            have HN6 : Hid (RowsI w6 w3.heap.size v1 (acc ++ [rr])) := by
              have hX6 : Own.SubO (_root_.Go.World.alloc (w4.alloc (.cells #[(.slice AC rr.length cc)] 90)) (.cells #[(.slice AC rr.length cc)] 90)) w3.heap.size (.slice AC rr.length cc) rr := Own.own_later HX5.out (Below.new _ _)
              refine ⟨vs ++ [(.slice AC rr.length cc)], Own.OwnL.snoc (HO.out.later (Below.new (w4.alloc (.cells #[(.slice AC rr.length cc)] 90)) (.cells #[(.slice AC rr.length cc)] 90))) hX6 HAP.out ?_ hg1 (by decide)⟩
              show w6.ownsRow w3.heap.size 90 1 v1 (acc.length + 1) (Own.flat rowK acc vs ++ [(.slice AC rr.length cc)])
              exact hown1
            have HB6 := Lib.hid ((HB5.out.later (Below.new (w4.alloc (.cells #[(.slice AC rr.length cc)] 90)) (.cells #[(.slice AC rr.length cc)] 90))).grown hg1 (by simp; omega) (fun g hg' => ((hrow.out (.cells #[] 0)).lt g hg').1))
            clear hown1 hg1 hal
            go_wp2_with fail
            go_roundw
            case rel => exact ⟨k + 1, acc ++ [rr], by omega, by go_num, by have h := hacc.out; unfold Hid; simp; omega, HN6.out, HB6.out, HE.out⟩
            case measure => simp [intOf]; omega
          · have HE : Hid (R = (rc, [])) := by
              unfold Hid
              rw [HR.out, hS.out.trans (HN.out (fun e => h3 e.1) h0), capR, if_neg (by exact h0)]
            have j2 := int_beq h0
            have j4 : (rc != 0) = true := by simp [h0]
            subst hW5 hgb
            clear HKS HR q5 qz5
            go_wp2_with fail
            refine bodyPost_ret (v := .tuple #[.slice none 0 0, .int .i64 _]) (by simp [results, Tryz.results63, go_sem]; try first | exact rfl | exact ⟨rfl, rfl⟩) rfl ?_
            exact ⟨_, by rw [HE.out], by rw [HE.out]; exact ⟨[], Own.OwnL.nil _ _ _⟩, HBv.out⟩
      · obtain rfl : k = m := by omega
        have hS2 := rowsK_end 2 ra ks acc
        rw [HM.out] at hS2
        have HF : Hid (R = if 24 < acc.length then (4, []) else (0, acc)) := by unfold Hid; rw [HR.out, hS.out.trans hS2, capR]; rfl
        obtain ⟨A7, cap7, rfl, _⟩ := Own.own_slice HRW.out.row
        have HRI : Hid (RowsI wr w.heap.size (.slice A7 acc.length cap7) acc) := RowsI.base ⟨vs, HRW.out⟩ HB3.out.size
        have hal := hacc.out
        clear hS hS2 HR HKS HS0 HRW y0 x0 x1 x2 x3
        generalize hac : acc.length = al at *
        by_cases hbig : 24 < al
        · have HE : Hid (R = (4, [])) := by unfold Hid; rw [HF.out, if_pos hbig]
          clear hac
          go_wp2_with fail
          refine bodyPost_ret (v := .tuple #[.slice none 0 0, .int .i64 _]) (by simp [results, Tryz.results63, go_sem]; try first | exact rfl | exact ⟨rfl, rfl⟩) rfl ?_
          exact ⟨_, by rw [HE.out], by rw [HE.out]; exact ⟨[], Own.OwnL.nil _ _ _⟩, HBw.out⟩
        · have HE : Hid (R = (0, acc)) := by unfold Hid; rw [HF.out, if_neg hbig]
          clear hac
          go_wp2_with fail
          refine bodyPost_ret (v := .tuple #[.slice A7 _ cap7, .int .i64 _]) (by simp [results, Tryz.results63, go_sem]; try first | exact rfl | exact ⟨rfl, rfl⟩) rfl ?_
          exact ⟨_, by rw [HE.out], by rw [HE.out]; exact HRI.out, HBw.out⟩
  · have HE : Hid (R = RT) := HR3.out h3
    subst h3
    clear HR1 HR2 HR3 HKA HKK HK2
    go_wp2_with fail
    refine (HKR.out _ HB0.out).mono ?_
    rintro e w3 ⟨v3, rfl, ho3, hb3⟩
    have HO3 := Lib.hid (ho3.base HB0.out.size)
    have HB3 := Lib.hid (HB0.out.later hb3)
    obtain ⟨vs3, hO3⟩ := ho3
    obtain ⟨A5, cap5, rfl, _⟩ := Own.own_slice hO3.row
    clear hO3 hb3
    go_wp2_with fail
    refine bodyPost_ret (v := .tuple #[.slice A5 _ cap5, .int .i64 _]) (by simp [results, Tryz.results63, go_sem]; try first | exact rfl | exact ⟨rfl, rfl⟩) rfl ?_
    exact ⟨_, by rw [HE.out], by rw [HE.out]; exact HO3.out, HB3.out⟩
end Go.Proofs.YtalpafaflgddpaaGreatDoor

namespace Go.Proofs.YtalpafaflgddpaaGreatDoor
open Go.RowKit
set_option linter.unusedVariables false

set_option maxRecDepth 100000 in
set_option maxHeartbeats 4000000 in
theorem RunPlan_any (A : Option Addr) (n c : Nat) (b0 b1 b2 b3 c0 c1 c2 c3 c4 c5 e0 e1 e2 : Value) (fs : List NodeD) (b : TableD) (d : QueryD) (p : PlanD) (w : World) (htab : tabT w) (ht : Nodes w w.heap.size A n fs) (hb : TableR w w.heap.size b0 b1 b2 b3 b) (h : QueryR w w.heap.size c0 c1 c2 c3 c4 c5 d) (hp : PlanR w w.heap.size e0 e1 e2 p) (hts : smallNs fs) (hbs : b.small) (hs : d.small) (hps : p.small) :
    Calls Tryz.prog 28 #[.agg #[.slice A n c], .agg #[b0, b1, b2, b3], .agg #[c0, c1, c2, c3, c4, c5], .agg #[e0, e1, e2]] w (RowsPost (runPB fs b d p) w) := by
  have HK1 := Lib.hid (fun W (hW : Below w.heap.size w W) => TreeOk_any A n c fs W (ht.later hW) (tab_later htab hW) hts)
  have HK2 := Lib.hid (fun W (hW : Below w.heap.size w W) => PlanFits_any b0 b1 b2 b3 c0 c1 c2 c3 c4 c5 e0 e1 e2 b d p W (hb.later hW) (h.later hW) (hp.later hW) hbs hs)
  have HK3 : Hid (treeB fs = true → fitsP b d p = true → ∀ W (hW : Below w.heap.size w W), Calls Tryz.prog 63 #[.agg #[.slice A n c], .agg #[b0, b1, b2, b3], .agg #[e0, e1, e2]] W (RowsPost (planRowsB b.cols b.glob fs p) W)) := fun h1 h2 W hW => by
    obtain ⟨⟨f1, f2⟩, _⟩ := fits_facts (fitsP_facts h2)
    exact planRows_any A n c b0 b1 b2 b3 e0 e1 e2 fs b p W (ht.later hW) (hb.later hW) (hp.later hW) hts h1 f1 f2 (plan_kinds h2) hps
  have HK4 : Hid (fitsP b d p = true → (planRowsB b.cols b.glob fs p).1 = 0 → ∀ W (hW : Below w.heap.size w W) v, RowsI W w.heap.size v (planRowsB b.cols b.glob fs p).2 → ∃ A4 n4 cap4, v = .slice A4 n4 cap4 ∧ Calls Tryz.prog 56 #[.agg #[b0, b1, b2, b3], .agg #[c0, c1, c2, c3, c4, c5], .slice A4 n4 cap4] W (MadePost (madeB b d (planRowsB b.cols b.glob fs p).2) W)) := fun h2 h3 W hW v hv => by
    obtain ⟨⟨f1, f2⟩, f3, f4, f4', f5, f6⟩ := fits_facts (fitsP_facts h2)
    obtain ⟨g1, g2⟩ := planRows_zero f2 h3
    obtain ⟨A4, cap4, rfl, _, hrd⟩ := rowsI_rd hv
    exact ⟨A4, _, cap4, rfl, result_any A4 _ cap4 b0 b1 b2 b3 c0 c1 c2 c3 c4 c5 b d _ W (tab_later htab hW) (hb.later hW) (h.later hW) hrd hbs hs (fun r hr => (g2 r hr).1) g1 f3 f4 f4' f5 f6 (fun r hr => (g2 r hr).2)⟩
  have HR : Hid (runPB fs b d p = if (treeB fs && fitsP b d p) = true then (if (planRowsB b.cols b.glob fs p).1 = 0 then (0, madeB b d (planRowsB b.cols b.glob fs p).2) else ((planRowsB b.cols b.glob fs p).1, [])) else (1, [])) := rfl
  generalize treeB fs = xt at *
  generalize fitsP b d p = xf at *
  obtain ⟨rfl, rfl, ⟨A2, n2, p2, rfl, s2, k2⟩, ⟨A3, n3, p3, rfl, s3, k3⟩⟩ := hb
  obtain ⟨rfl, ⟨B1, m1, q1, rfl, t1, l1⟩, ⟨B2, m2, q2, rfl, t2, l2⟩, rfl, rfl, rfl⟩ := h
  obtain ⟨rfl, rfl, rfl⟩ := hp
  clear s2 s3 t1 t2 ht hts hbs hs hps htab
  generalize runPB fs b d p = R at *
  generalize hrt : planRowsB b.cols b.glob fs p = rt at *
  clear hrt
  generalize hmd : madeB b d rt.2 = md at *
  clear hmd
  generalize b.name = nm at *
  generalize b.glob = gl at *
  generalize d.table = tb at *
  generalize d.order = od at *
  generalize d.desc = ds at *
  generalize d.limit = lm at *
  generalize p.kind = kd at *
  generalize p.col = pc at *
  generalize p.val = pv at *
  have HB0 := Lib.hid (below_new4 w (.cells #[.slice A n c] 41) (.cells #[.string nm, .string gl, .slice A2 n2 p2, .slice A3 n3 p3] 43) (.cells #[.string tb, .slice B1 m1 q1, .slice B2 m2 q2, .string od, .bool ds, .int .i64 lm] 47) (.cells #[.int .i64 kd, .string pc, .string pv] 49))
  have HX0 := Lib.hid (heap_0of4 w (.cells #[.slice A n c] 41) (.cells #[.string nm, .string gl, .slice A2 n2 p2, .slice A3 n3 p3] 43) (.cells #[.string tb, .slice B1 m1 q1, .slice B2 m2 q2, .string od, .bool ds, .int .i64 lm] 47) (.cells #[.int .i64 kd, .string pc, .string pv] 49))
  have HX1 := Lib.hid (heap_1of4 w (.cells #[.slice A n c] 41) (.cells #[.string nm, .string gl, .slice A2 n2 p2, .slice A3 n3 p3] 43) (.cells #[.string tb, .slice B1 m1 q1, .slice B2 m2 q2, .string od, .bool ds, .int .i64 lm] 47) (.cells #[.int .i64 kd, .string pc, .string pv] 49))
  have HX2 := Lib.hid (heap_2of4 w (.cells #[.slice A n c] 41) (.cells #[.string nm, .string gl, .slice A2 n2 p2, .slice A3 n3 p3] 43) (.cells #[.string tb, .slice B1 m1 q1, .slice B2 m2 q2, .string od, .bool ds, .int .i64 lm] 47) (.cells #[.int .i64 kd, .string pc, .string pv] 49))
  have HX3 := Lib.hid (heap_3of4 w (.cells #[.slice A n c] 41) (.cells #[.string nm, .string gl, .slice A2 n2 p2, .slice A3 n3 p3] 43) (.cells #[.string tb, .slice B1 m1 q1, .slice B2 m2 q2, .string od, .bool ds, .int .i64 lm] 47) (.cells #[.int .i64 kd, .string pc, .string pv] 49))
  go_enter Tryz.func28, Tryz.ntmps28
  go_wp2_with fail
  refine (HK1.out _ HB0.out).mono ?_
  rintro e w1 ⟨rfl, hb1⟩
  have HB1 := Lib.hid (HB0.out.later hb1)
  have HY0 := Lib.hid (Blk.later HX0.out hb1 (by first | (simp; done) | (simp; omega)))
  have HY1 := Lib.hid (Blk.later HX1.out hb1 (by first | (simp; done) | (simp; omega)))
  have HY2 := Lib.hid (Blk.later HX2.out hb1 (by first | (simp; done) | (simp; omega)))
  have HY3 := Lib.hid (Blk.later HX3.out hb1 (by first | (simp; done) | (simp; omega)))
  clear hb1 HX0 HX1 HX2 HX3
  cases xt
  · have HE : Hid (R = (1, [])) := by unfold Hid; rw [HR.out]; rfl
    go_wp2_with fail
    refine bodyPost_ret (v := .tuple #[.slice none 0 0, .int .i64 _]) (by simp [results, Tryz.results28, go_sem]; try first | exact rfl | exact ⟨rfl, rfl⟩) rfl ?_
    exact ⟨_, by rw [HE.out], by rw [HE.out]; exact ⟨[], Own.OwnL.nil _ _ _⟩, HB1.out⟩
  have p0 := HY0.out.cell
  have p1 := HY1.out.cell
  have p2' := HY2.out.cell
  have z2 := HY2.out.lt
  have p3' := HY3.out.cell
  have z3 := HY3.out.lt
  go_wp2_with fail
  refine (HK2.out _ HB1.out).mono ?_
  rintro e w2 ⟨rfl, hb2⟩
  have HB2 := Lib.hid (HB1.out.later hb2)
  have HZ0 := Lib.hid (HY0.out.later hb2 HY0.out.lt)
  have HZ1 := Lib.hid (HY1.out.later hb2 HY1.out.lt)
  have HZ2 := Lib.hid (HY2.out.later hb2 HY2.out.lt)
  have HZ3 := Lib.hid (HY3.out.later hb2 HY3.out.lt)
  clear hb2 p0 p1 p2' z2 p3' z3 HY0 HY1 HY2 HY3
  cases xf
  · have HE : Hid (R = (1, [])) := by unfold Hid; rw [HR.out]; rfl
    go_wp2_with fail
    refine bodyPost_ret (v := .tuple #[.slice none 0 0, .int .i64 _]) (by simp [results, Tryz.results28, go_sem]; try first | exact rfl | exact ⟨rfl, rfl⟩) rfl ?_
    exact ⟨_, by rw [HE.out], by rw [HE.out]; exact ⟨[], Own.OwnL.nil _ _ _⟩, HB2.out⟩
  have hRS : R = if rt.1 = 0 then (0, md) else (rt.1, []) := by rw [HR.out]; rfl
  have HRS := Lib.hid hRS
  have HK3' := Lib.hid (HK3.out (by first | rfl | trivial) (by first | rfl | trivial))
  have HK4' := Lib.hid (HK4.out (by first | rfl | trivial))
  clear hRS HR HK3 HK4
  have p0 := HZ0.out.cell
  have p1 := HZ1.out.cell
  have p3' := HZ3.out.cell
  go_wp2_with fail
  refine (HK3'.out _ HB2.out).mono ?_
  rintro e w3 ⟨v3, rfl, ho3, hb3⟩
  have HB3 := Lib.hid (HB2.out.later hb3)
  have HO3 := Lib.hid (ho3.base HB2.out.size)
  have HW1 := Lib.hid (HZ1.out.later hb3 HZ1.out.lt)
  have HW2 := Lib.hid (HZ2.out.later hb3 HZ2.out.lt)
  clear ho3 hb3 p0 p1 p3' HZ3 HZ0 HZ1 HZ2 HK3' HK1 HK2
  have p1 := HW1.out.cell
  have p2' := HW2.out.cell
  obtain ⟨rc, rs⟩ := rt
  by_cases h0 : rc = 0
  · have HE : Hid (R = (0, md)) := by unfold Hid; rw [HRS.out, if_pos h0]
    obtain ⟨A4, n4, cap4, rfl, hk4⟩ := HK4'.out h0 _ HB3.out _ HO3.out
    have HM := Lib.hid hk4
    clear hk4 HK4' HRS HO3
    subst h0
    go_wp2_with fail
    refine HM.out.mono ?_
    rintro e w5 ⟨v5, rfl, ho5, hb5⟩
    have HO5 := Lib.hid (ho5.base HB3.out.size)
    have HB5 := Lib.hid (HB3.out.later hb5)
    obtain ⟨A5, cap5, rfl, _⟩ := rowsI_rd ho5
    clear ho5 hb5 p1 p2' HW1 HW2
    go_wp2_with fail
    refine bodyPost_ret (v := .tuple #[.slice A5 _ cap5, .int .i64 _]) (by simp [results, Tryz.results28, go_sem]; try exact ⟨rfl, rfl⟩) rfl ?_
    exact ⟨_, by rw [HE.out], by rw [HE.out]; exact HO5.out, HB5.out⟩
  · have HE : Hid (R = (rc, [])) := by unfold Hid; rw [HRS.out, if_neg h0]
    have i1 : (rc == 0) = false := by simp [h0]
    have i2 : (rc != 0) = true := by simp [h0]
    obtain ⟨A4, cap4, rfl, _⟩ := rowsI_rd HO3.out
    clear HK4' HRS HO3 p1 p2' HW1 HW2
    go_wp2_with fail
    refine bodyPost_ret (v := .tuple #[.slice none 0 0, .int .i64 _]) (by simp [results, Tryz.results28, go_sem]; try first | exact rfl | exact ⟨rfl, rfl⟩) rfl ?_
    exact ⟨_, by rw [HE.out], by rw [HE.out]; exact ⟨[], Own.OwnL.nil _ _ _⟩, HB3.out⟩
end Go.Proofs.YtalpafaflgddpaaGreatDoor

namespace Go.Proofs.YtalpafaflgddpaaGreatDoor
open Go.RowKit
set_option linter.unusedVariables false

theorem specRunPlan_r (a0 b0 b1 b2 b3 c0 c1 c2 c3 c4 c5 e0 e1 e2 : Value) (t : TreeD) (b : TableD) (d : QueryD) (p : PlanD) (w : World) (ht : TreeR w w.heap.size a0 t) (hb : TableR w w.heap.size b0 b1 b2 b3 b) (h : QueryR w w.heap.size c0 c1 c2 c3 c4 c5 d) (hp : PlanR w w.heap.size e0 e1 e2 p) (hts : t.small) (hbs : b.small) (hs : d.small) (hps : p.small) :
    Calls Tryz.prog 27 #[.agg #[a0], .agg #[b0, b1, b2, b3], .agg #[c0, c1, c2, c3, c4, c5], .agg #[e0, e1, e2]] w (RowsPost (runPB t.nodes b d p) w) := by
  obtain ⟨A, n, cap, rfl, hN, _⟩ := ht
  exact specRunPlan_any A n cap b0 b1 b2 b3 c0 c1 c2 c3 c4 c5 e0 e1 e2 t.nodes b d p w hN hb h hp hts hbs hs hps
theorem RunPlan_r (a0 b0 b1 b2 b3 c0 c1 c2 c3 c4 c5 e0 e1 e2 : Value) (t : TreeD) (b : TableD) (d : QueryD) (p : PlanD) (w : World) (htab : tabT w) (ht : TreeR w w.heap.size a0 t) (hb : TableR w w.heap.size b0 b1 b2 b3 b) (h : QueryR w w.heap.size c0 c1 c2 c3 c4 c5 d) (hp : PlanR w w.heap.size e0 e1 e2 p) (hts : t.small) (hbs : b.small) (hs : d.small) (hps : p.small) :
    Calls Tryz.prog 28 #[.agg #[a0], .agg #[b0, b1, b2, b3], .agg #[c0, c1, c2, c3, c4, c5], .agg #[e0, e1, e2]] w (RowsPost (runPB t.nodes b d p) w) := by
  obtain ⟨A, n, cap, rfl, hN, _⟩ := ht
  exact RunPlan_any A n cap b0 b1 b2 b3 c0 c1 c2 c3 c4 c5 e0 e1 e2 t.nodes b d p w htab hN hb h hp hts hbs hs hps
set_option maxRecDepth 100000 in
set_option maxHeartbeats 4000000 in
theorem fnRP_walk (a0 b0 b1 b2 b3 c0 c1 c2 c3 c4 c5 e0 e1 e2 : Value) (t : TreeD) (b : TableD) (d : QueryD) (p : PlanD) (w : World) (htab : tabT w) (hTree : TreeR w w.heap.size a0 t) (hTable : TableR w w.heap.size b0 b1 b2 b3 b) (hQuery : QueryR w w.heap.size c0 c1 c2 c3 c4 c5 d) (hPlan : PlanR w w.heap.size e0 e1 e2 p) (fTree : t.fine) (fTable : b.fine) (fQuery : d.fine) (fPlan : p.fine) :
    Calls Tryz.prog 5 #[.agg #[a0], .agg #[b0, b1, b2, b3], .agg #[c0, c1, c2, c3, c4, c5], .agg #[e0, e1, e2]] w fun e w' => e = .returned (.bool true) ∧ Below w.heap.size w w' := by
  have HTAB := Lib.hid htab
  have HRTree := Lib.hid (fun W (hW : Below w.heap.size w W) => hTree.later hW)
  have HSZTree := Lib.hid (fun (x : Int) (h0 : 0 ≤ x) (h1 : x ≤ 1048576) W (hW : Below w.heap.size w W) => szTree_any a0 t x W (hTree.later hW) fTree h0 h1)
  have HGOTree := Lib.hid (szTree_good t)
  have HSMTree := Lib.hid (szTree_small t)
  have HRTable := Lib.hid (fun W (hW : Below w.heap.size w W) => hTable.later hW)
  have HSZTable := Lib.hid (fun (x : Int) (h0 : 0 ≤ x) (h1 : x ≤ 1048576) W (hW : Below w.heap.size w W) => szTable_any b0 b1 b2 b3 b x W (hTable.later hW) fTable h0 h1)
  have HGOTable := Lib.hid (szTable_good b)
  have HSMTable := Lib.hid (szTable_small b)
  have HRQuery := Lib.hid (fun W (hW : Below w.heap.size w W) => hQuery.later hW)
  have HSZQuery := Lib.hid (fun (x : Int) (h0 : 0 ≤ x) (h1 : x ≤ 1048576) W (hW : Below w.heap.size w W) => szQuery_any c0 c1 c2 c3 c4 c5 d x W (hQuery.later hW) fQuery h0 h1)
  have HGOQuery := Lib.hid (szQuery_good d)
  have HSMQuery := Lib.hid (szQuery_small d)
  have HRPlan := Lib.hid (fun W (hW : Below w.heap.size w W) => hPlan.later hW)
  have HSZPlan := Lib.hid (fun (x : Int) (h0 : 0 ≤ x) (h1 : x ≤ 1048576) W (hW : Below w.heap.size w W) => szPlan_any e0 e1 e2 p x W (hPlan.later hW) fPlan h0 h1)
  have HGOPlan := Lib.hid (szPlan_good p)
  have HSMPlan := Lib.hid (szPlan_small p)
  obtain ⟨A0, n0, q0, rfl, _, _⟩ := hTree
  obtain ⟨rfl, rfl, ⟨A2, n2, q2, rfl, _, _⟩, ⟨A3, n3, q3, rfl, _, _⟩⟩ := hTable
  obtain ⟨rfl, ⟨B1, m1, r1, rfl, _, _⟩, ⟨B2, m2, r2, rfl, _, _⟩, rfl, rfl, rfl⟩ := hQuery
  obtain ⟨rfl, rfl, rfl⟩ := hPlan
  clear htab fTree fTable fQuery fPlan
  have HWB := Lib.hid (below_new4 w (.cells #[.slice A0 n0 q0] 24) (.cells #[.string b.name, .string b.glob, .slice A2 n2 q2, .slice A3 n3 q3] 27) (.cells #[.string d.table, .slice B1 m1 r1, .slice B2 m2 r2, .string d.order, .bool d.desc, .int .i64 d.limit] 30) (.cells #[.int .i64 p.kind, .string p.col, .string p.val] 32))
  obtain ⟨WB, hWB⟩ : ∃ WB, WB = (((w.alloc (.cells #[.slice A0 n0 q0] 24)).alloc (.cells #[.string b.name, .string b.glob, .slice A2 n2 q2, .slice A3 n3 q3] 27)).alloc (.cells #[.string d.table, .slice B1 m1 r1, .slice B2 m2 r2, .string d.order, .bool d.desc, .int .i64 d.limit] 30)).alloc (.cells #[.int .i64 p.kind, .string p.col, .string p.val] 32) := ⟨_, rfl⟩
  have HX0 : Hid (Blk WB (w.heap.size) 24 #[.slice A0 n0 q0]) := by subst hWB; exact heap_0of4 _ _ _ _ _
  have HX1 : Hid (Blk WB (w.heap.size + 1) 27 #[.string b.name, .string b.glob, .slice A2 n2 q2, .slice A3 n3 q3]) := by subst hWB; exact heap_1of4 _ _ _ _ _
  have HX2 : Hid (Blk WB (w.heap.size + 1 + 1) 30 #[.string d.table, .slice B1 m1 r1, .slice B2 m2 r2, .string d.order, .bool d.desc, .int .i64 d.limit]) := by subst hWB; exact heap_2of4 _ _ _ _ _
  have HX3 : Hid (Blk WB (w.heap.size + 1 + 1 + 1) 32 #[.int .i64 p.kind, .string p.col, .string p.val]) := by subst hWB; exact heap_3of4 _ _ _ _ _
  have HB0 : Hid (Below w.heap.size w WB) := by subst hWB; exact HWB.out
  have HS1 : Hid (∀ W', Below WB.heap.size WB W' → (W'.cell? ⟨w.heap.size, 0, none⟩ = some (.slice A0 n0 q0) ∧ W'.cell? ⟨w.heap.size + 1, 0, none⟩ = some (.string b.name) ∧ W'.cell? ⟨w.heap.size + 1, 1, none⟩ = some (.string b.glob) ∧ W'.cell? ⟨w.heap.size + 1, 2, none⟩ = some (.slice A2 n2 q2) ∧ W'.cell? ⟨w.heap.size + 1, 3, none⟩ = some (.slice A3 n3 q3) ∧ W'.cell? ⟨w.heap.size + 1 + 1, 0, none⟩ = some (.string d.table) ∧ W'.cell? ⟨w.heap.size + 1 + 1, 1, none⟩ = some (.slice B1 m1 r1) ∧ W'.cell? ⟨w.heap.size + 1 + 1, 2, none⟩ = some (.slice B2 m2 r2) ∧ W'.cell? ⟨w.heap.size + 1 + 1, 3, none⟩ = some (.string d.order) ∧ W'.cell? ⟨w.heap.size + 1 + 1, 4, none⟩ = some (.bool d.desc) ∧ W'.cell? ⟨w.heap.size + 1 + 1, 5, none⟩ = some (.int .i64 d.limit) ∧ W'.cell? ⟨w.heap.size + 1 + 1 + 1, 0, none⟩ = some (.int .i64 p.kind) ∧ W'.cell? ⟨w.heap.size + 1 + 1 + 1, 1, none⟩ = some (.string p.col) ∧ W'.cell? ⟨w.heap.size + 1 + 1 + 1, 2, none⟩ = some (.string p.val))) := fun W' hW => ⟨(HX0.out.later hW HX0.out.lt).at 0 rfl, (HX1.out.later hW HX1.out.lt).at 0 rfl, (HX1.out.later hW HX1.out.lt).at 1 rfl, (HX1.out.later hW HX1.out.lt).at 2 rfl, (HX1.out.later hW HX1.out.lt).at 3 rfl, (HX2.out.later hW HX2.out.lt).at 0 rfl, (HX2.out.later hW HX2.out.lt).at 1 rfl, (HX2.out.later hW HX2.out.lt).at 2 rfl, (HX2.out.later hW HX2.out.lt).at 3 rfl, (HX2.out.later hW HX2.out.lt).at 4 rfl, (HX2.out.later hW HX2.out.lt).at 5 rfl, (HX3.out.later hW HX3.out.lt).at 0 rfl, (HX3.out.later hW HX3.out.lt).at 1 rfl, (HX3.out.later hW HX3.out.lt).at 2 rfl⟩
  have HBW0 : Hid (Below WB.heap.size WB WB) := Below.refl _ _
  go_enter Tryz.func5, Tryz.ntmps5
  go_wp2_with fail
  rw [← hWB]
  clear hWB
  refine (HSZTree.out 1048576 (by omega) (by omega) _ HB0.out).mono ?_
  rintro e w1 ⟨rfl, hb1⟩
  have HB1 := Lib.hid (HB0.out.later hb1)
  have HBW1 := Lib.hid (HBW0.out.later hb1)
  have hg0 := HGOTree.out 1048576 (by omega)
  have HSM0 := Lib.hid (HSMTree.out 1048576 (by omega) (by omega))
  clear hb1 HSZTree HGOTree HSMTree
  generalize szTree t 1048576 = x0 at *
  by_cases hneg0 : x0 < 0
  · go_wp2_with fail
    go_ret
    exact ⟨rfl, HB1.out⟩
  have hS := HS1.out _ HBW1.out
  obtain ⟨s0, s1, s2, s3, s4, s5, s6, s7, s8, s9, s10, s11, s12, s13⟩ := hS
  go_wp2_with fail
  clear s0 s1 s2 s3 s4 s5 s6 s7 s8 s9 s10 s11 s12 s13
  refine (HSZTable.out x0 (by omega) (by omega) _ HB1.out).mono ?_
  rintro e w2 ⟨rfl, hb2⟩
  have HB2 := Lib.hid (HB1.out.later hb2)
  have HBW2 := Lib.hid (HBW1.out.later hb2)
  have hg1 := HGOTable.out x0 (by omega)
  have HSM1 := Lib.hid (HSMTable.out x0 (by omega) (by omega))
  clear hb2 HSZTable HGOTable HSMTable
  generalize szTable b x0 = x1 at *
  by_cases hneg1 : x1 < 0
  · go_wp2_with fail
    go_ret
    exact ⟨rfl, HB2.out⟩
  have hS := HS1.out _ HBW2.out
  obtain ⟨s0, s1, s2, s3, s4, s5, s6, s7, s8, s9, s10, s11, s12, s13⟩ := hS
  go_wp2_with fail
  clear s0 s1 s2 s3 s4 s5 s6 s7 s8 s9 s10 s11 s12 s13
  refine (HSZQuery.out x1 (by omega) (by omega) _ HB2.out).mono ?_
  rintro e w3 ⟨rfl, hb3⟩
  have HB3 := Lib.hid (HB2.out.later hb3)
  have HBW3 := Lib.hid (HBW2.out.later hb3)
  have hg2 := HGOQuery.out x1 (by omega)
  have HSM2 := Lib.hid (HSMQuery.out x1 (by omega) (by omega))
  clear hb3 HSZQuery HGOQuery HSMQuery
  generalize szQuery d x1 = x2 at *
  by_cases hneg2 : x2 < 0
  · go_wp2_with fail
    go_ret
    exact ⟨rfl, HB3.out⟩
  have hS := HS1.out _ HBW3.out
  obtain ⟨s0, s1, s2, s3, s4, s5, s6, s7, s8, s9, s10, s11, s12, s13⟩ := hS
  go_wp2_with fail
  clear s0 s1 s2 s3 s4 s5 s6 s7 s8 s9 s10 s11 s12 s13
  refine (HSZPlan.out x2 (by omega) (by omega) _ HB3.out).mono ?_
  rintro e w4 ⟨rfl, hb4⟩
  have HB4 := Lib.hid (HB3.out.later hb4)
  have HBW4 := Lib.hid (HBW3.out.later hb4)
  have hg3 := HGOPlan.out x2 (by omega)
  have HSM3 := Lib.hid (HSMPlan.out x2 (by omega) (by omega))
  clear hb4 HSZPlan HGOPlan HSMPlan
  generalize szPlan p x2 = x3 at *
  by_cases hneg3 : x3 < 0
  · go_wp2_with fail
    go_ret
    exact ⟨rfl, HB4.out⟩
  have hS := HS1.out _ HBW4.out
  obtain ⟨s0, s1, s2, s3, s4, s5, s6, s7, s8, s9, s10, s11, s12, s13⟩ := hS
  have hsT := HSM0.out (by omega)
  have hsB := HSM1.out (by omega)
  have hsQ := HSM2.out (by omega)
  have hsP := HSM3.out (by omega)
  have HTO3 := Lib.hid (fun W (hW : Below w.heap.size w W) => toPlan_r _ _ _ p W (HRPlan.out W hW))
  have HTO0 := Lib.hid (fun W (hW : Below w.heap.size w W) => toTree_r _ t W (HRTree.out W hW) hsT)
  have HTO1 := Lib.hid (fun W (hW : Below w.heap.size w W) => toTable_r _ _ _ _ b W (HRTable.out W hW) hsB)
  have HTO2 := Lib.hid (fun W (hW : Below w.heap.size w W) => toQuery_r _ _ _ _ _ _ d W (HRQuery.out W hW) hsQ)
  have HSP := Lib.hid (fun W a0 b0 b1 b2 b3 c0 c1 c2 c3 c4 c5 e0 e1 e2 h1 h2 h3 h4 => specRunPlan_r a0 b0 b1 b2 b3 c0 c1 c2 c3 c4 c5 e0 e1 e2 t b d p W h1 h2 h3 h4 hsT hsB hsQ hsP)
  have HIM := Lib.hid (fun W (hW : Below w.heap.size w W) a0 b0 b1 b2 b3 c0 c1 c2 c3 c4 c5 e0 e1 e2 h1 h2 h3 h4 => RunPlan_r a0 b0 b1 b2 b3 c0 c1 c2 c3 c4 c5 e0 e1 e2 t b d p W (tab_later HTAB.out hW) h1 h2 h3 h4 hsT hsB hsQ hsP)
  have HE0 := Lib.hid (fun W c0 d0 h h' => eqTree_same c0 d0 t W h h' hsT)
  have HE1 := Lib.hid (fun W c0 c1 c2 c3 d0 d1 d2 d3 h h' => eqTable_same c0 c1 c2 c3 d0 d1 d2 d3 b W h h' hsB)
  have HE2 := Lib.hid (fun W c0 c1 c2 c3 c4 c5 d0 d1 d2 d3 d4 d5 h h' => eqQuery_same c0 c1 c2 c3 c4 c5 d0 d1 d2 d3 d4 d5 d W h h' hsQ)
  have HTA0 := Lib.hid (fun W (hW : Below w.heap.size w W) => toTree_any _ t W (HRTree.out W hW) hsT)
  have HTA1 := Lib.hid (fun W (hW : Below w.heap.size w W) => toTable_any _ _ _ _ b W (HRTable.out W hW) hsB)
  have HTA2 := Lib.hid (fun W (hW : Below w.heap.size w W) => toQuery_any _ _ _ _ _ _ d W (HRQuery.out W hW) hsQ)
  have HMK0 := Lib.hid (fun W base k P v vs h h1 h2 h3 => markTree_any base k P v t.nodes vs W h ⟨hsT.1, fun x hx => (hsT.2 x hx).2.1.1⟩ h1 h2 h3)
  have HMK1 := Lib.hid (fun W base k P v2 v3 h2 h3 ha hk hu hv => markTable_any base k P b.name b.glob v2 v3 b.cols b.idx W h2 h3 ha hsB.2.2.1.1 hsB.2.2.2.1 hk hu hv)
  have HMK2 := Lib.hid (fun W base k P v1 v2 vs h1 h2 hvs hk hu hv => markQuery_any base k P d.table d.order d.desc d.limit v1 v2 d.cols d.wher vs W h1 h2 hsQ.2.1.1 hsQ.2.2.1.1 hvs hk hu hv)
  have HFI := Lib.hid (runPB_fine (fs := t.nodes) (p := p) hsB hsQ)
  clear hsT hsB hsQ hsP HSM0 HSM1 HSM2 HSM3 hg0 hg1 hg2 hg3 hneg0 hneg1 hneg2 HTAB HRTree HRTable HRQuery HRPlan
  generalize runPB t.nodes b d p = R at *
  obtain ⟨R1, rs⟩ := R
  have HEQ := Lib.hid (fun W A A' n c n' c' h h' => eqRowS_same A A' n c n' c' rs W h h' HFI.out)
  have HMR := Lib.hid (fun W base P v vs h hu hus => markRowS_any base 1 P v rs vs W h HFI.out (by omega) hu hus)
  have HHR := Lib.hid (fun W A n c hN h => heldRowS_any A n c 1 rs W hN h HFI.out (by omega))
  go_wp2_with fail
  go_region_held3 (fun w' => w'.cell? ⟨w.heap.size, 0, none⟩ = some (.slice A0 n0 q0) ∧ w'.cell? ⟨w.heap.size + 1, 0, none⟩ = some (.string b.name) ∧ w'.cell? ⟨w.heap.size + 1, 1, none⟩ = some (.string b.glob) ∧ w'.cell? ⟨w.heap.size + 1, 2, none⟩ = some (.slice A2 n2 q2) ∧ w'.cell? ⟨w.heap.size + 1, 3, none⟩ = some (.slice A3 n3 q3) ∧ w'.cell? ⟨w.heap.size + 1 + 1, 0, none⟩ = some (.string d.table) ∧ w'.cell? ⟨w.heap.size + 1 + 1, 1, none⟩ = some (.slice B1 m1 r1) ∧ w'.cell? ⟨w.heap.size + 1 + 1, 2, none⟩ = some (.slice B2 m2 r2) ∧ w'.cell? ⟨w.heap.size + 1 + 1, 3, none⟩ = some (.string d.order) ∧ w'.cell? ⟨w.heap.size + 1 + 1, 4, none⟩ = some (.bool d.desc) ∧ w'.cell? ⟨w.heap.size + 1 + 1, 5, none⟩ = some (.int .i64 d.limit) ∧ w'.cell? ⟨w.heap.size + 1 + 1 + 1, 0, none⟩ = some (.int .i64 p.kind) ∧ w'.cell? ⟨w.heap.size + 1 + 1 + 1, 1, none⟩ = some (.string p.col) ∧ w'.cell? ⟨w.heap.size + 1 + 1 + 1, 2, none⟩ = some (.string p.val)) (first | exact HS1.out _ (HBW4.out.later hb14) | exact HS1.out _ (HBW4.out.later hb13) | exact HS1.out _ (HBW4.out.later hb12) | exact HS1.out _ (HBW4.out.later hb11) | exact HS1.out _ (HBW4.out.later hb10) | exact HS1.out _ HBW4.out.drew)
    (first
      | (go_at_call 11; refine (HTO0.out _ (by exact HB4.out.drew)).mono ?_; rintro e w10 ⟨t0, rfl, hr10, hb10'⟩; have hb10 := undrew hb10'; have HR10 := Lib.hid hr10; clear hr10 hb10')
      | (go_at_call 12; refine (HTO1.out _ (by exact HB4.out.later hb10)).mono ?_; rintro e w11 ⟨u0, u1, u2, u3, rfl, hr11, hb11'⟩; have hb11 := hb10.later hb11'; have HR11 := Lib.hid hr11; have HR10 := Lib.hid (HR10.out.later hb11'); clear hr11 hb11')
      | (go_at_call 13; refine (HTO2.out _ (by exact HB4.out.later hb11)).mono ?_; rintro e w12 ⟨y0, y1, y2, y3, y4, y5, rfl, hr12, hb12'⟩; have hb12 := hb11.later hb12'; have HR12 := Lib.hid hr12; have HR10 := Lib.hid (HR10.out.later hb12'); have HR11 := Lib.hid (HR11.out.later hb12'); clear hr12 hb12')
      | (go_at_call 14; refine (HTO3.out _ (by exact HB4.out.later hb12)).mono ?_; rintro e w13 ⟨z0, z1, z2, rfl, hr13, hb13'⟩; have hb13 := hb12.later hb13'; have HR13 := Lib.hid hr13; have HR10 := Lib.hid (HR10.out.later hb13'); have HR11 := Lib.hid (HR11.out.later hb13'); have HR12 := Lib.hid (HR12.out.later hb13'); clear hr13 hb13')
      | (go_at_call 27; refine (HSP.out _ _ _ _ _ _ _ _ _ _ _ _ _ _ _ HR10.out HR11.out HR12.out HR13.out).mono ?_; rintro e w14 ⟨rv, rfl, hro, hb14'⟩; have hb14 := hb13.later hb14'; obtain ⟨RA, rcap, rfl, _, hrd⟩ := rowsI_rd hro; have HRD14 := Lib.hid hrd; clear hb14' hro hrd))
  obtain ⟨ws, hws⟩ : ∃ ws, ws = w14 := ⟨_, rfl⟩
  have HZB : Hid (w.heap.size + 4 ≤ ws.heap.size ∧ WB.heap.size ≤ ws.heap.size) := by subst hws; have h1 := hb14.size; have h2 := HBW4.out.size; have h3 := HX3.out.lt; exact ⟨by omega, by omega⟩
  rw [← hws] at hb14 HRD14
  have HB5 := Lib.hid (HB4.out.later hb14)
  have HBW5 := Lib.hid (HBW4.out.later hb14)
  have HBS5 : Hid (Below ws.heap.size ws ws) := Below.refl _ _
  clear hb10 hb11 hb12 hb13 hb14 HR10 HR11 HR12 HR13
  clear s0 s1 s2 s3 s4 s5 s6 s7 s8 s9 s10 s11 s12 s13
  obtain ⟨s0, s1, s2, s3, s4, s5, s6, s7, s8, s9, s10, s11, s12, s13⟩ := HS1.out _ HBW5.out
  go_wp2_with fail
  rw [← hws]
  clear hws
  refine (HTA0.out _ HB5.out).mono ?_
  rintro e v0 ⟨t0, tvs, rfl, hO, hb⟩
  have HP0 := Lib.hid (hO.inP (P := fun g => ws.heap.size ≤ g ∧ g < v0.heap.size) (fun g h1 h2 => ⟨h1, h2⟩))
  obtain ⟨X0, xq0, rfl, hxc, hN⟩ := OwnL.Nodes hO
  have HRX0 : Hid (TreeR v0 v0.heap.size (.slice X0 t.nodes.length xq0) t) := ⟨X0, _, xq0, rfl, hN, hxc⟩
  clear hN hxc
  have HQ0 : Hid (Blk (v0.alloc (.cells #[.slice X0 t.nodes.length xq0] 41)) v0.heap.size 41 #[.slice X0 t.nodes.length xq0]) := heap_last rfl
  have hbn := hb.later (Below.new v0 (.cells #[.slice X0 t.nodes.length xq0] 41))
  have HV0 : Hid (ws.heap.size ≤ v0.heap.size) := by unfold Hid; have h1 := hb.size; simpa using h1
  have HB6 := Lib.hid (HB5.out.later hbn)
  have HBW6 := Lib.hid (HBW5.out.later hbn)
  have HBS6 := Lib.hid (HBS5.out.later hbn)
  have HRX0 := Lib.hid (HRX0.out.later (Below.new v0 (.cells #[.slice X0 t.nodes.length xq0] 41)))
  have HO0 := Lib.hid (hO.later (Below.new v0 (.cells #[.slice X0 t.nodes.length xq0] 41)))
  clear hb hbn hO HTA0 s0 s1 s2 s3 s4 s5 s6 s7 s8 s9 s10 s11 s12 s13
  obtain ⟨s0, s1, s2, s3, s4, s5, s6, s7, s8, s9, s10, s11, s12, s13⟩ := HS1.out _ HBW6.out
  go_wp2_with fail
  refine (HTA1.out _ HB6.out).mono ?_
  rintro e v1 ⟨u2, u3, rfl, hO2, hO3, hap, hb⟩
  have HP1 : Hid (Own.inP (fun g => v0.heap.size + 1 ≤ g ∧ g < v1.heap.size) u2 ∧ Own.inP (fun g => v0.heap.size + 1 ≤ g ∧ g < v1.heap.size) u3) := ⟨Own.inP_of hO2 (fun g h1 h2 => ⟨by simpa using h1, h2⟩), Own.inP_of hO3 (fun g h1 h2 => ⟨by simpa using h1, h2⟩)⟩
  obtain ⟨X2, xq2, rfl, hc2, hN2⟩ := hO2.strs
  obtain ⟨X3, xq3, rfl, hc3, hN3⟩ := hO3.strs
  have HRX1 : Hid (TableR v1 v1.heap.size (.string b.name) (.string b.glob) (.slice X2 b.cols.length xq2) (.slice X3 b.idx.length xq3) b) := ⟨rfl, rfl, ⟨X2, _, xq2, rfl, hN2, hc2⟩, ⟨X3, _, xq3, rfl, hN3, hc3⟩⟩
  have HAP := Lib.hid hap
  clear hN2 hc2 hN3 hc3 hap
  have HQ1 : Hid (Blk (v1.alloc (.cells #[.string b.name, .string b.glob, .slice X2 b.cols.length xq2, .slice X3 b.idx.length xq3] 43)) v1.heap.size 43 #[.string b.name, .string b.glob, .slice X2 b.cols.length xq2, .slice X3 b.idx.length xq3]) := heap_last rfl
  have hbn := hb.later (Below.new v1 (.cells #[.string b.name, .string b.glob, .slice X2 b.cols.length xq2, .slice X3 b.idx.length xq3] 43))
  have HV1 : Hid (v0.heap.size + 1 ≤ v1.heap.size) := by unfold Hid; have h1 := hb.size; simpa using h1
  have HB7 := Lib.hid (HB6.out.later hbn)
  have HBW7 := Lib.hid (HBW6.out.later hbn)
  have HBS7 := Lib.hid (HBS6.out.later hbn)
  have HQ0 := Lib.hid (HQ0.out.later hbn HQ0.out.lt)
  have HRX0 := Lib.hid (HRX0.out.later hbn)
  have HO0 := Lib.hid (HO0.out.later hbn)
  have HRX1 := Lib.hid (HRX1.out.later (Below.new v1 (.cells #[.string b.name, .string b.glob, .slice X2 b.cols.length xq2, .slice X3 b.idx.length xq3] 43)))
  have HO2 := Lib.hid (Own.own_later hO2 (Below.new v1 (.cells #[.string b.name, .string b.glob, .slice X2 b.cols.length xq2, .slice X3 b.idx.length xq3] 43)))
  have HO3 := Lib.hid (Own.own_later hO3 (Below.new v1 (.cells #[.string b.name, .string b.glob, .slice X2 b.cols.length xq2, .slice X3 b.idx.length xq3] 43)))
  clear hb hbn hO2 hO3 HTA1 s0 s1 s2 s3 s4 s5 s6 s7 s8 s9 s10 s11 s12 s13
  obtain ⟨s0, s1, s2, s3, s4, s5, s6, s7, s8, s9, s10, s11, s12, s13⟩ := HS1.out _ HBW7.out
  go_wp2_with fail
  refine (HTA2.out _ HB7.out).mono ?_
  rintro e v2 ⟨y1, y2, yvs, rfl, hO4, hO5', hb⟩
  have hO5 := cond_nil hO5'
  have HP2 : Hid (Own.inP (fun g => v1.heap.size + 1 ≤ g ∧ g < v2.heap.size) y1 ∧ Own.inP (fun g => v1.heap.size + 1 ≤ g ∧ g < v2.heap.size) y2) := ⟨Own.inP_of hO4 (fun g h1 h2 => ⟨by simpa using h1, h2⟩), (hO5.inP (fun g h1 h2 => ⟨by simpa using h1, h2⟩)).1⟩
  obtain ⟨X4, xq4, rfl, hc4, hN4⟩ := hO4.strs
  obtain ⟨X5, xq5, rfl, hc5, hN5⟩ := OwnL.Conds hO5
  have HRX2 : Hid (QueryR v2 v2.heap.size (.string d.table) (.slice X4 d.cols.length xq4) (.slice X5 d.wher.length xq5) (.string d.order) (.bool d.desc) (.int .i64 d.limit) d) := ⟨rfl, ⟨X4, _, xq4, rfl, hN4, hc4⟩, ⟨X5, _, xq5, rfl, hN5, hc5⟩, rfl, rfl, rfl⟩
  clear hN4 hc4 hN5 hc5 hO5'
  have HQ2 : Hid (Blk (v2.alloc (.cells #[.string d.table, .slice X4 d.cols.length xq4, .slice X5 d.wher.length xq5, .string d.order, .bool d.desc, .int .i64 d.limit] 47)) v2.heap.size 47 #[.string d.table, .slice X4 d.cols.length xq4, .slice X5 d.wher.length xq5, .string d.order, .bool d.desc, .int .i64 d.limit]) := heap_last rfl
  have hbn := hb.later (Below.new v2 (.cells #[.string d.table, .slice X4 d.cols.length xq4, .slice X5 d.wher.length xq5, .string d.order, .bool d.desc, .int .i64 d.limit] 47))
  have HV2 : Hid (v1.heap.size + 1 ≤ v2.heap.size) := by unfold Hid; have h1 := hb.size; simpa using h1
  have HB8 := Lib.hid (HB7.out.later hbn)
  have HBW8 := Lib.hid (HBW7.out.later hbn)
  have HBS8 := Lib.hid (HBS7.out.later hbn)
  have q00 : v2.cell? ⟨v0.heap.size, 0, none⟩ = some (.slice X0 t.nodes.length xq0) := (HQ0.out.later hb HQ0.out.lt).at 0 rfl
  have q0z := (HQ0.out.later hb HQ0.out.lt).lt
  have q10 : v2.cell? ⟨v1.heap.size, 0, none⟩ = some (.string b.name) := (HQ1.out.later hb HQ1.out.lt).at 0 rfl
  have q11 : v2.cell? ⟨v1.heap.size, 1, none⟩ = some (.string b.glob) := (HQ1.out.later hb HQ1.out.lt).at 1 rfl
  have q12 : v2.cell? ⟨v1.heap.size, 2, none⟩ = some (.slice X2 b.cols.length xq2) := (HQ1.out.later hb HQ1.out.lt).at 2 rfl
  have q13 : v2.cell? ⟨v1.heap.size, 3, none⟩ = some (.slice X3 b.idx.length xq3) := (HQ1.out.later hb HQ1.out.lt).at 3 rfl
  have q1z := (HQ1.out.later hb HQ1.out.lt).lt
  have HQ0 := Lib.hid (HQ0.out.later hbn HQ0.out.lt)
  have HRX0 := Lib.hid (HRX0.out.later hbn)
  have HQ1 := Lib.hid (HQ1.out.later hbn HQ1.out.lt)
  have HRX1 := Lib.hid (HRX1.out.later hbn)
  have HO0 := Lib.hid (HO0.out.later hbn)
  have HO2 := Lib.hid (Own.own_later HO2.out hbn)
  have HO3 := Lib.hid (Own.own_later HO3.out hbn)
  have HRX2 := Lib.hid (HRX2.out.later (Below.new v2 (.cells #[.string d.table, .slice X4 d.cols.length xq4, .slice X5 d.wher.length xq5, .string d.order, .bool d.desc, .int .i64 d.limit] 47)))
  have HO4 := Lib.hid (Own.own_later hO4 (Below.new v2 (.cells #[.string d.table, .slice X4 d.cols.length xq4, .slice X5 d.wher.length xq5, .string d.order, .bool d.desc, .int .i64 d.limit] 47)))
  have HO5 := Lib.hid (hO5.later (Below.new v2 (.cells #[.string d.table, .slice X4 d.cols.length xq4, .slice X5 d.wher.length xq5, .string d.order, .bool d.desc, .int .i64 d.limit] 47)))
  clear hb hbn hO4 hO5 HTA2 s0 s1 s2 s3 s4 s5 s6 s7 s8 s9 s10 s11 s12 s13
  obtain ⟨WX, hWX⟩ : ∃ WX, WX = v2.alloc (.cells #[.string d.table, .slice X4 d.cols.length xq4, .slice X5 d.wher.length xq5, .string d.order, .bool d.desc, .int .i64 d.limit] 47) := ⟨_, rfl⟩
  have HVX : Hid (WX.heap.size = v2.heap.size + 1) := by subst hWX; simp [Hid]
  rw [← hWX] at HB8 HBW8 HBS8 HQ0 HQ1 HQ2 HRX0 HRX1 HRX2 HO0 HO2 HO3 HO4 HO5
  have HS2 : Hid (∀ W', Below WX.heap.size WX W' → (W'.cell? ⟨v0.heap.size, 0, none⟩ = some (.slice X0 t.nodes.length xq0) ∧ W'.cell? ⟨v1.heap.size, 0, none⟩ = some (.string b.name) ∧ W'.cell? ⟨v1.heap.size, 1, none⟩ = some (.string b.glob) ∧ W'.cell? ⟨v1.heap.size, 2, none⟩ = some (.slice X2 b.cols.length xq2) ∧ W'.cell? ⟨v1.heap.size, 3, none⟩ = some (.slice X3 b.idx.length xq3) ∧ W'.cell? ⟨v2.heap.size, 0, none⟩ = some (.string d.table) ∧ W'.cell? ⟨v2.heap.size, 1, none⟩ = some (.slice X4 d.cols.length xq4) ∧ W'.cell? ⟨v2.heap.size, 2, none⟩ = some (.slice X5 d.wher.length xq5) ∧ W'.cell? ⟨v2.heap.size, 3, none⟩ = some (.string d.order) ∧ W'.cell? ⟨v2.heap.size, 4, none⟩ = some (.bool d.desc) ∧ W'.cell? ⟨v2.heap.size, 5, none⟩ = some (.int .i64 d.limit))) := fun W' hW => ⟨(HQ0.out.later hW HQ0.out.lt).at 0 rfl, (HQ1.out.later hW HQ1.out.lt).at 0 rfl, (HQ1.out.later hW HQ1.out.lt).at 1 rfl, (HQ1.out.later hW HQ1.out.lt).at 2 rfl, (HQ1.out.later hW HQ1.out.lt).at 3 rfl, (HQ2.out.later hW HQ2.out.lt).at 0 rfl, (HQ2.out.later hW HQ2.out.lt).at 1 rfl, (HQ2.out.later hW HQ2.out.lt).at 2 rfl, (HQ2.out.later hW HQ2.out.lt).at 3 rfl, (HQ2.out.later hW HQ2.out.lt).at 4 rfl, (HQ2.out.later hW HQ2.out.lt).at 5 rfl⟩
  have HBX8 : Hid (Below WX.heap.size WX WX) := Below.refl _ _
  go_wp2_with fail
  rw [← hWX]
  clear hWX q00 q0z q10 q11 q12 q13 q1z
  obtain ⟨s0, s1, s2, s3, s4, s5, s6, s7, s8, s9, s10, s11, s12, s13⟩ := HS1.out _ HBW8.out
  obtain ⟨g0, g1, g2, g3, g4, g5, g6, g7, g8, g9, g10⟩ := HS2.out _ HBX8.out
  go_region_held3 (fun w' => (w'.cell? ⟨w.heap.size, 0, none⟩ = some (.slice A0 n0 q0) ∧ w'.cell? ⟨w.heap.size + 1, 0, none⟩ = some (.string b.name) ∧ w'.cell? ⟨w.heap.size + 1, 1, none⟩ = some (.string b.glob) ∧ w'.cell? ⟨w.heap.size + 1, 2, none⟩ = some (.slice A2 n2 q2) ∧ w'.cell? ⟨w.heap.size + 1, 3, none⟩ = some (.slice A3 n3 q3) ∧ w'.cell? ⟨w.heap.size + 1 + 1, 0, none⟩ = some (.string d.table) ∧ w'.cell? ⟨w.heap.size + 1 + 1, 1, none⟩ = some (.slice B1 m1 r1) ∧ w'.cell? ⟨w.heap.size + 1 + 1, 2, none⟩ = some (.slice B2 m2 r2) ∧ w'.cell? ⟨w.heap.size + 1 + 1, 3, none⟩ = some (.string d.order) ∧ w'.cell? ⟨w.heap.size + 1 + 1, 4, none⟩ = some (.bool d.desc) ∧ w'.cell? ⟨w.heap.size + 1 + 1, 5, none⟩ = some (.int .i64 d.limit) ∧ w'.cell? ⟨w.heap.size + 1 + 1 + 1, 0, none⟩ = some (.int .i64 p.kind) ∧ w'.cell? ⟨w.heap.size + 1 + 1 + 1, 1, none⟩ = some (.string p.col) ∧ w'.cell? ⟨w.heap.size + 1 + 1 + 1, 2, none⟩ = some (.string p.val)) ∧ (w'.cell? ⟨v0.heap.size, 0, none⟩ = some (.slice X0 t.nodes.length xq0) ∧ w'.cell? ⟨v1.heap.size, 0, none⟩ = some (.string b.name) ∧ w'.cell? ⟨v1.heap.size, 1, none⟩ = some (.string b.glob) ∧ w'.cell? ⟨v1.heap.size, 2, none⟩ = some (.slice X2 b.cols.length xq2) ∧ w'.cell? ⟨v1.heap.size, 3, none⟩ = some (.slice X3 b.idx.length xq3) ∧ w'.cell? ⟨v2.heap.size, 0, none⟩ = some (.string d.table) ∧ w'.cell? ⟨v2.heap.size, 1, none⟩ = some (.slice X4 d.cols.length xq4) ∧ w'.cell? ⟨v2.heap.size, 2, none⟩ = some (.slice X5 d.wher.length xq5) ∧ w'.cell? ⟨v2.heap.size, 3, none⟩ = some (.string d.order) ∧ w'.cell? ⟨v2.heap.size, 4, none⟩ = some (.bool d.desc) ∧ w'.cell? ⟨v2.heap.size, 5, none⟩ = some (.int .i64 d.limit))) (first | exact ⟨HS1.out _ (HBW8.out.later hbg2), HS2.out _ hbg2⟩ | exact ⟨HS1.out _ (HBW8.out.later hb20), HS2.out _ hb20⟩ | exact ⟨HS1.out _ HBW8.out.drew, HS2.out _ (Below.refl WX.heap.size WX).drew⟩)
    (first
      | (go_at_call 14; refine (HTO3.out _ (by exact HB8.out.drew)).mono ?_; rintro e w20 ⟨z0, z1, z2, rfl, hr20, hb20'⟩; have hb20 := undrew hb20'; have HR20 := Lib.hid hr20; clear hr20 hb20')
      | (go_at_call 28; refine (HIM.out _ (by exact HB8.out.later hb20) _ _ _ _ _ _ _ _ _ _ _ _ _ _ (HRX0.out.later hb20) (HRX1.out.later hb20) (HRX2.out.later hb20) HR20.out).mono ?_; rintro e wg ⟨gv, rfl, ⟨gvs, hgo⟩, hbg⟩; have HPG := Lib.hid (hgo.inP (P := fun g => w20.heap.size ≤ g ∧ g < wg.heap.size) (fun g h1 h2 => ⟨h1, h2⟩)); have HVG := Lib.hid hbg.size; obtain ⟨GA, gcap, rfl, _, _⟩ := rowsI_rd ⟨gvs, hgo⟩; have HOG := Lib.hid hgo; have hbg2 := hb20.later hbg; clear hbg hgo))
  have HPG := Lib.hid (And.intro (Own.inP_mono HPG.out.1 (Q := fun g => WX.heap.size ≤ g ∧ g < wg.heap.size) (fun g hg => by have := hb20.size; omega)) (fun u hu => Own.inP_mono (HPG.out.2 u hu) (Q := fun g => WX.heap.size ≤ g ∧ g < wg.heap.size) (fun g hg => by have := hb20.size; omega)))
  have HVG : Hid (WX.heap.size ≤ wg.heap.size) := hbg2.size
  have HB9 := Lib.hid (HB8.out.later hbg2)
  have HBW9 := Lib.hid (HBW8.out.later hbg2)
  have HBS9 := Lib.hid (HBS8.out.later hbg2)
  have HBX9 := Lib.hid (HBX8.out.later hbg2)
  have HBG9 : Hid (Below wg.heap.size wg wg) := Below.refl _ _
  clear hb20 hbg2 HR20 s0 s1 s2 s3 s4 s5 s6 s7 s8 s9 s10 s11 s12 s13 g0 g1 g2 g3 g4 g5 g6 g7 g8 g9 g10
  go_wp2_with fail
  refine (HEQ.out _ _ _ _ _ _ _ ?eqa1 ?eqb1).mono ?_
  case eqa1 => first | exact (by obtain ⟨_, _, e, _, hx⟩ := rowsI_rd ⟨_, (HOG.out.later HBG9.out)⟩; cases e; exact hx) | exact HRD14.out.later HBS9.out
  case eqb1 => first | exact (by obtain ⟨_, _, e, _, hx⟩ := rowsI_rd ⟨_, (HOG.out.later HBG9.out)⟩; cases e; exact hx) | exact HRD14.out.later HBS9.out
  rintro e w49 ⟨rfl, hb49⟩
  have HB10 := Lib.hid (HB9.out.later hb49)
  have HBW10 := Lib.hid (HBW9.out.later hb49)
  have HBS10 := Lib.hid (HBS9.out.later hb49)
  have HBX10 := Lib.hid (HBX9.out.later hb49)
  have HBG10 := Lib.hid (HBG9.out.later hb49)
  clear hb49
  obtain ⟨s0, s1, s2, s3, s4, s5, s6, s7, s8, s9, s10, s11, s12, s13⟩ := HS1.out _ HBW10.out
  obtain ⟨g0, g1, g2, g3, g4, g5, g6, g7, g8, g9, g10⟩ := HS2.out _ HBX10.out
  go_wp2_with fail
  go_region_held3 (fun w' => (w'.cell? ⟨w.heap.size, 0, none⟩ = some (.slice A0 n0 q0) ∧ w'.cell? ⟨w.heap.size + 1, 0, none⟩ = some (.string b.name) ∧ w'.cell? ⟨w.heap.size + 1, 1, none⟩ = some (.string b.glob) ∧ w'.cell? ⟨w.heap.size + 1, 2, none⟩ = some (.slice A2 n2 q2) ∧ w'.cell? ⟨w.heap.size + 1, 3, none⟩ = some (.slice A3 n3 q3) ∧ w'.cell? ⟨w.heap.size + 1 + 1, 0, none⟩ = some (.string d.table) ∧ w'.cell? ⟨w.heap.size + 1 + 1, 1, none⟩ = some (.slice B1 m1 r1) ∧ w'.cell? ⟨w.heap.size + 1 + 1, 2, none⟩ = some (.slice B2 m2 r2) ∧ w'.cell? ⟨w.heap.size + 1 + 1, 3, none⟩ = some (.string d.order) ∧ w'.cell? ⟨w.heap.size + 1 + 1, 4, none⟩ = some (.bool d.desc) ∧ w'.cell? ⟨w.heap.size + 1 + 1, 5, none⟩ = some (.int .i64 d.limit) ∧ w'.cell? ⟨w.heap.size + 1 + 1 + 1, 0, none⟩ = some (.int .i64 p.kind) ∧ w'.cell? ⟨w.heap.size + 1 + 1 + 1, 1, none⟩ = some (.string p.col) ∧ w'.cell? ⟨w.heap.size + 1 + 1 + 1, 2, none⟩ = some (.string p.val)) ∧ (w'.cell? ⟨v0.heap.size, 0, none⟩ = some (.slice X0 t.nodes.length xq0) ∧ w'.cell? ⟨v1.heap.size, 0, none⟩ = some (.string b.name) ∧ w'.cell? ⟨v1.heap.size, 1, none⟩ = some (.string b.glob) ∧ w'.cell? ⟨v1.heap.size, 2, none⟩ = some (.slice X2 b.cols.length xq2) ∧ w'.cell? ⟨v1.heap.size, 3, none⟩ = some (.slice X3 b.idx.length xq3) ∧ w'.cell? ⟨v2.heap.size, 0, none⟩ = some (.string d.table) ∧ w'.cell? ⟨v2.heap.size, 1, none⟩ = some (.slice X4 d.cols.length xq4) ∧ w'.cell? ⟨v2.heap.size, 2, none⟩ = some (.slice X5 d.wher.length xq5) ∧ w'.cell? ⟨v2.heap.size, 3, none⟩ = some (.string d.order) ∧ w'.cell? ⟨v2.heap.size, 4, none⟩ = some (.bool d.desc) ∧ w'.cell? ⟨v2.heap.size, 5, none⟩ = some (.int .i64 d.limit))) (first | exact ⟨HS1.out _ (HBW10.out.later hb61), HS2.out _ (HBX10.out.later hb61)⟩ | exact ⟨HS1.out _ (HBW10.out.later hb60), HS2.out _ (HBX10.out.later hb60)⟩ | exact ⟨HS1.out _ HBW10.out.drew, HS2.out _ HBX10.out.drew⟩)
    (first
      | (go_at_call 11; refine (HTO0.out _ (by exact HB10.out.drew)).mono ?_; rintro e w60 ⟨t0, rfl, hr60, hb60'⟩; have hb60 := undrew hb60'; have HR60 := Lib.hid hr60; clear hr60 hb60')
      | (go_at_call 16; refine (HE0.out _ _ _ (by exact HRX0.out.later (HBX10.out.later hb60)) HR60.out).mono ?_; rintro e w61 ⟨rfl, hb61'⟩; have hb61 := hb60.later hb61'; clear hb61'))
  have HB11 := Lib.hid (HB10.out.later hb61)
  have HBW11 := Lib.hid (HBW10.out.later hb61)
  have HBS11 := Lib.hid (HBS10.out.later hb61)
  have HBX11 := Lib.hid (HBX10.out.later hb61)
  have HBG11 := Lib.hid (HBG10.out.later hb61)
  clear hb60 hb61 HR60 s0 s1 s2 s3 s4 s5 s6 s7 s8 s9 s10 s11 s12 s13 g0 g1 g2 g3 g4 g5 g6 g7 g8 g9 g10
  obtain ⟨s0, s1, s2, s3, s4, s5, s6, s7, s8, s9, s10, s11, s12, s13⟩ := HS1.out _ HBW11.out
  obtain ⟨g0, g1, g2, g3, g4, g5, g6, g7, g8, g9, g10⟩ := HS2.out _ HBX11.out
  go_wp2_with fail
  go_region_held3 (fun w' => (w'.cell? ⟨w.heap.size, 0, none⟩ = some (.slice A0 n0 q0) ∧ w'.cell? ⟨w.heap.size + 1, 0, none⟩ = some (.string b.name) ∧ w'.cell? ⟨w.heap.size + 1, 1, none⟩ = some (.string b.glob) ∧ w'.cell? ⟨w.heap.size + 1, 2, none⟩ = some (.slice A2 n2 q2) ∧ w'.cell? ⟨w.heap.size + 1, 3, none⟩ = some (.slice A3 n3 q3) ∧ w'.cell? ⟨w.heap.size + 1 + 1, 0, none⟩ = some (.string d.table) ∧ w'.cell? ⟨w.heap.size + 1 + 1, 1, none⟩ = some (.slice B1 m1 r1) ∧ w'.cell? ⟨w.heap.size + 1 + 1, 2, none⟩ = some (.slice B2 m2 r2) ∧ w'.cell? ⟨w.heap.size + 1 + 1, 3, none⟩ = some (.string d.order) ∧ w'.cell? ⟨w.heap.size + 1 + 1, 4, none⟩ = some (.bool d.desc) ∧ w'.cell? ⟨w.heap.size + 1 + 1, 5, none⟩ = some (.int .i64 d.limit) ∧ w'.cell? ⟨w.heap.size + 1 + 1 + 1, 0, none⟩ = some (.int .i64 p.kind) ∧ w'.cell? ⟨w.heap.size + 1 + 1 + 1, 1, none⟩ = some (.string p.col) ∧ w'.cell? ⟨w.heap.size + 1 + 1 + 1, 2, none⟩ = some (.string p.val)) ∧ (w'.cell? ⟨v0.heap.size, 0, none⟩ = some (.slice X0 t.nodes.length xq0) ∧ w'.cell? ⟨v1.heap.size, 0, none⟩ = some (.string b.name) ∧ w'.cell? ⟨v1.heap.size, 1, none⟩ = some (.string b.glob) ∧ w'.cell? ⟨v1.heap.size, 2, none⟩ = some (.slice X2 b.cols.length xq2) ∧ w'.cell? ⟨v1.heap.size, 3, none⟩ = some (.slice X3 b.idx.length xq3) ∧ w'.cell? ⟨v2.heap.size, 0, none⟩ = some (.string d.table) ∧ w'.cell? ⟨v2.heap.size, 1, none⟩ = some (.slice X4 d.cols.length xq4) ∧ w'.cell? ⟨v2.heap.size, 2, none⟩ = some (.slice X5 d.wher.length xq5) ∧ w'.cell? ⟨v2.heap.size, 3, none⟩ = some (.string d.order) ∧ w'.cell? ⟨v2.heap.size, 4, none⟩ = some (.bool d.desc) ∧ w'.cell? ⟨v2.heap.size, 5, none⟩ = some (.int .i64 d.limit))) (first | exact ⟨HS1.out _ (HBW11.out.later hb63), HS2.out _ (HBX11.out.later hb63)⟩ | exact ⟨HS1.out _ (HBW11.out.later hb62), HS2.out _ (HBX11.out.later hb62)⟩ | exact ⟨HS1.out _ HBW11.out.drew, HS2.out _ HBX11.out.drew⟩)
    (first
      | (go_at_call 12; refine (HTO1.out _ (by exact HB11.out.drew)).mono ?_; rintro e w62 ⟨u0, u1, u2, u3, rfl, hr62, hb62'⟩; have hb62 := undrew hb62'; have HR62 := Lib.hid hr62; clear hr62 hb62')
      | (go_at_call 17; refine (HE1.out _ _ _ _ _ _ _ _ _ (by exact HRX1.out.later (HBX11.out.later hb62)) HR62.out).mono ?_; rintro e w63 ⟨rfl, hb63'⟩; have hb63 := hb62.later hb63'; clear hb63'))
  have HB12 := Lib.hid (HB11.out.later hb63)
  have HBW12 := Lib.hid (HBW11.out.later hb63)
  have HBS12 := Lib.hid (HBS11.out.later hb63)
  have HBX12 := Lib.hid (HBX11.out.later hb63)
  have HBG12 := Lib.hid (HBG11.out.later hb63)
  clear hb62 hb63 HR62 s0 s1 s2 s3 s4 s5 s6 s7 s8 s9 s10 s11 s12 s13 g0 g1 g2 g3 g4 g5 g6 g7 g8 g9 g10
  obtain ⟨s0, s1, s2, s3, s4, s5, s6, s7, s8, s9, s10, s11, s12, s13⟩ := HS1.out _ HBW12.out
  obtain ⟨g0, g1, g2, g3, g4, g5, g6, g7, g8, g9, g10⟩ := HS2.out _ HBX12.out
  go_wp2_with fail
  go_region_held3 (fun w' => (w'.cell? ⟨w.heap.size, 0, none⟩ = some (.slice A0 n0 q0) ∧ w'.cell? ⟨w.heap.size + 1, 0, none⟩ = some (.string b.name) ∧ w'.cell? ⟨w.heap.size + 1, 1, none⟩ = some (.string b.glob) ∧ w'.cell? ⟨w.heap.size + 1, 2, none⟩ = some (.slice A2 n2 q2) ∧ w'.cell? ⟨w.heap.size + 1, 3, none⟩ = some (.slice A3 n3 q3) ∧ w'.cell? ⟨w.heap.size + 1 + 1, 0, none⟩ = some (.string d.table) ∧ w'.cell? ⟨w.heap.size + 1 + 1, 1, none⟩ = some (.slice B1 m1 r1) ∧ w'.cell? ⟨w.heap.size + 1 + 1, 2, none⟩ = some (.slice B2 m2 r2) ∧ w'.cell? ⟨w.heap.size + 1 + 1, 3, none⟩ = some (.string d.order) ∧ w'.cell? ⟨w.heap.size + 1 + 1, 4, none⟩ = some (.bool d.desc) ∧ w'.cell? ⟨w.heap.size + 1 + 1, 5, none⟩ = some (.int .i64 d.limit) ∧ w'.cell? ⟨w.heap.size + 1 + 1 + 1, 0, none⟩ = some (.int .i64 p.kind) ∧ w'.cell? ⟨w.heap.size + 1 + 1 + 1, 1, none⟩ = some (.string p.col) ∧ w'.cell? ⟨w.heap.size + 1 + 1 + 1, 2, none⟩ = some (.string p.val)) ∧ (w'.cell? ⟨v0.heap.size, 0, none⟩ = some (.slice X0 t.nodes.length xq0) ∧ w'.cell? ⟨v1.heap.size, 0, none⟩ = some (.string b.name) ∧ w'.cell? ⟨v1.heap.size, 1, none⟩ = some (.string b.glob) ∧ w'.cell? ⟨v1.heap.size, 2, none⟩ = some (.slice X2 b.cols.length xq2) ∧ w'.cell? ⟨v1.heap.size, 3, none⟩ = some (.slice X3 b.idx.length xq3) ∧ w'.cell? ⟨v2.heap.size, 0, none⟩ = some (.string d.table) ∧ w'.cell? ⟨v2.heap.size, 1, none⟩ = some (.slice X4 d.cols.length xq4) ∧ w'.cell? ⟨v2.heap.size, 2, none⟩ = some (.slice X5 d.wher.length xq5) ∧ w'.cell? ⟨v2.heap.size, 3, none⟩ = some (.string d.order) ∧ w'.cell? ⟨v2.heap.size, 4, none⟩ = some (.bool d.desc) ∧ w'.cell? ⟨v2.heap.size, 5, none⟩ = some (.int .i64 d.limit))) (first | exact ⟨HS1.out _ (HBW12.out.later hb65), HS2.out _ (HBX12.out.later hb65)⟩ | exact ⟨HS1.out _ (HBW12.out.later hb64), HS2.out _ (HBX12.out.later hb64)⟩ | exact ⟨HS1.out _ HBW12.out.drew, HS2.out _ HBX12.out.drew⟩)
    (first
      | (go_at_call 13; refine (HTO2.out _ (by exact HB12.out.drew)).mono ?_; rintro e w64 ⟨y0, y1, y2, y3, y4, y5, rfl, hr64, hb64'⟩; have hb64 := undrew hb64'; have HR64 := Lib.hid hr64; clear hr64 hb64')
      | (go_at_call 18; refine (HE2.out _ _ _ _ _ _ _ _ _ _ _ _ _ (by exact HRX2.out.later (HBX12.out.later hb64)) HR64.out).mono ?_; rintro e w65 ⟨rfl, hb65'⟩; have hb65 := hb64.later hb65'; clear hb65'))
  have HB13 := Lib.hid (HB12.out.later hb65)
  have HBW13 := Lib.hid (HBW12.out.later hb65)
  have HBS13 := Lib.hid (HBS12.out.later hb65)
  have HBX13 := Lib.hid (HBX12.out.later hb65)
  have HBG13 := Lib.hid (HBG12.out.later hb65)
  clear hb64 hb65 HR64 s0 s1 s2 s3 s4 s5 s6 s7 s8 s9 s10 s11 s12 s13 g0 g1 g2 g3 g4 g5 g6 g7 g8 g9 g10
  have HZ : Hid (w.heap.size + 4 ≤ ws.heap.size ∧ WB.heap.size ≤ ws.heap.size ∧ ws.heap.size ≤ v0.heap.size ∧ v0.heap.size + 1 ≤ v1.heap.size ∧ v1.heap.size + 1 ≤ v2.heap.size ∧ WX.heap.size = v2.heap.size + 1 ∧ WX.heap.size ≤ wg.heap.size) := ⟨HZB.out.1, HZB.out.2, HV0.out, HV1.out, HV2.out, HVX.out, HVG.out⟩
  have HO0 := Lib.hid (HO0.out.later HBX13.out)
  have HO2 := Lib.hid (Own.own_later HO2.out HBX13.out)
  have HO3 := Lib.hid (Own.own_later HO3.out HBX13.out)
  have HO4 := Lib.hid (Own.own_later HO4.out HBX13.out)
  have HO5 := Lib.hid (HO5.out.later HBX13.out)
  have HOG := Lib.hid (HOG.out.later HBG13.out)
  have HQ0 := Lib.hid (HQ0.out.later HBX13.out HQ0.out.lt)
  have HQ1 := Lib.hid (HQ1.out.later HBX13.out HQ1.out.lt)
  have HQ2 := Lib.hid (HQ2.out.later HBX13.out HQ2.out.lt)
  clear HV0 HV1 HV2 HVX HVG HZB HS2 HE0 HE1 HE2 HRX0 HRX1 HRX2
  have g0 := HQ0.out.at 0 (v := .slice X0 t.nodes.length xq0) rfl
  have gz := HQ0.out.lt
  go_wp2_with fail
  refine (HMK0.out _ _ 1 (fun g => ws.heap.size ≤ g ∧ g < v0.heap.size) _ _ HO0.out (by omega) HP0.out.1 HP0.out.2).mono ?_
  rintro e wn ⟨km0, rfl, hm0, hC⟩
  have HB14 : Hid (Below w.heap.size w wn) := Own.Chg.below HB13.out hC (fun g hg => by obtain ⟨z0, z1, z2, z3, z4, z5, z6⟩ := HZ.out; omega) (Nat.le_refl _)
  have HBW14 : Hid (Below WB.heap.size WB wn) := Own.Chg.below HBW13.out hC (fun g hg => by obtain ⟨z0, z1, z2, z3, z4, z5, z6⟩ := HZ.out; omega) (Nat.le_refl _)
  have HBS14 : Hid (Below ws.heap.size ws wn) := Own.Chg.below HBS13.out hC (fun g hg => by obtain ⟨z0, z1, z2, z3, z4, z5, z6⟩ := HZ.out; omega) (Nat.le_refl _)
  have HQ1 := Lib.hid (Own.Blk.chg HQ1.out hC (by obtain ⟨z0, z1, z2, z3, z4, z5, z6⟩ := HZ.out; omega))
  have HQ2 := Lib.hid (Own.Blk.chg HQ2.out hC (by obtain ⟨z0, z1, z2, z3, z4, z5, z6⟩ := HZ.out; omega))
  have HO2 := Lib.hid (Own.own_chg HO2.out hC (Own.inP_mono HP1.out.1 (fun g hg => by obtain ⟨z0, z1, z2, z3, z4, z5, z6⟩ := HZ.out; omega)))
  have HO3 := Lib.hid (Own.own_chg HO3.out hC (Own.inP_mono HP1.out.2 (fun g hg => by obtain ⟨z0, z1, z2, z3, z4, z5, z6⟩ := HZ.out; omega)))
  have HO4 := Lib.hid (Own.own_chg HO4.out hC (Own.inP_mono HP2.out.1 (fun g hg => by obtain ⟨z0, z1, z2, z3, z4, z5, z6⟩ := HZ.out; omega)))
  have HO5 := Lib.hid (HO5.out.chg hC (Own.inP_mono HP2.out.2 (fun g hg => by obtain ⟨z0, z1, z2, z3, z4, z5, z6⟩ := HZ.out; omega)) (fun u hu g hg => by rw [List.eq_of_mem_replicate hu] at hg; exact absurd hg (by show (none : Option Nat) ≠ some g; simp)))
  have HOG := Lib.hid (HOG.out.chg hC (Own.inP_mono HPG.out.1 (fun g hg => by obtain ⟨z0, z1, z2, z3, z4, z5, z6⟩ := HZ.out; omega)) (fun u hu => Own.inP_mono (HPG.out.2 u hu) (fun g hg => by obtain ⟨z0, z1, z2, z3, z4, z5, z6⟩ := HZ.out; omega)))
  clear hC HO0 HP0 HQ0 HMK0 g0 gz
  obtain ⟨w70, rfl⟩ : ∃ W, W = wn := ⟨wn, rfl⟩
  have g0 := HQ1.out.at 0 (v := .string b.name) rfl
  have g1 := HQ1.out.at 1 (v := .string b.glob) rfl
  have g2 := HQ1.out.at 2 (v := .slice X2 b.cols.length xq2) rfl
  have g3 := HQ1.out.at 3 (v := .slice X3 b.idx.length xq3) rfl
  have gz := HQ1.out.lt
  go_wp2_with fail
  refine (HMK1.out _ _ km0 (fun g => v0.heap.size + 1 ≤ g ∧ g < v1.heap.size) _ _ HO2.out HO3.out HAP.out hm0 HP1.out.1 HP1.out.2).mono ?_
  rintro e wn ⟨km1, rfl, hm1, hC⟩
  have HB15 : Hid (Below w.heap.size w wn) := Own.Chg.below HB14.out hC (fun g hg => by obtain ⟨z0, z1, z2, z3, z4, z5, z6⟩ := HZ.out; omega) (Nat.le_refl _)
  have HBW15 : Hid (Below WB.heap.size WB wn) := Own.Chg.below HBW14.out hC (fun g hg => by obtain ⟨z0, z1, z2, z3, z4, z5, z6⟩ := HZ.out; omega) (Nat.le_refl _)
  have HBS15 : Hid (Below ws.heap.size ws wn) := Own.Chg.below HBS14.out hC (fun g hg => by obtain ⟨z0, z1, z2, z3, z4, z5, z6⟩ := HZ.out; omega) (Nat.le_refl _)
  have HQ2 := Lib.hid (Own.Blk.chg HQ2.out hC (by obtain ⟨z0, z1, z2, z3, z4, z5, z6⟩ := HZ.out; omega))
  have HO4 := Lib.hid (Own.own_chg HO4.out hC (Own.inP_mono HP2.out.1 (fun g hg => by obtain ⟨z0, z1, z2, z3, z4, z5, z6⟩ := HZ.out; omega)))
  have HO5 := Lib.hid (HO5.out.chg hC (Own.inP_mono HP2.out.2 (fun g hg => by obtain ⟨z0, z1, z2, z3, z4, z5, z6⟩ := HZ.out; omega)) (fun u hu g hg => by rw [List.eq_of_mem_replicate hu] at hg; exact absurd hg (by show (none : Option Nat) ≠ some g; simp)))
  have HOG := Lib.hid (HOG.out.chg hC (Own.inP_mono HPG.out.1 (fun g hg => by obtain ⟨z0, z1, z2, z3, z4, z5, z6⟩ := HZ.out; omega)) (fun u hu => Own.inP_mono (HPG.out.2 u hu) (fun g hg => by obtain ⟨z0, z1, z2, z3, z4, z5, z6⟩ := HZ.out; omega)))
  clear hC HO2 HO3 HP1 HQ1 HAP HMK1 hm0 g0 g1 g2 g3 gz
  obtain ⟨w71, rfl⟩ : ∃ W, W = wn := ⟨wn, rfl⟩
  have g0 := HQ2.out.at 0 (v := .string d.table) rfl
  have g1 := HQ2.out.at 1 (v := .slice X4 d.cols.length xq4) rfl
  have g2 := HQ2.out.at 2 (v := .slice X5 d.wher.length xq5) rfl
  have g3 := HQ2.out.at 3 (v := .string d.order) rfl
  have g4 := HQ2.out.at 4 (v := .bool d.desc) rfl
  have g5 := HQ2.out.at 5 (v := .int .i64 d.limit) rfl
  have gz := HQ2.out.lt
  go_wp2_with fail
  refine (HMK2.out _ _ km1 (fun g => v1.heap.size + 1 ≤ g ∧ g < v2.heap.size) _ _ _ HO4.out HO5.out (fun u hu => by rw [List.eq_of_mem_replicate hu]; rfl) (by omega) HP2.out.1 HP2.out.2).mono ?_
  rintro e wn ⟨km2, rfl, hm2, hC⟩
  have HB16 : Hid (Below w.heap.size w wn) := Own.Chg.below HB15.out hC (fun g hg => by obtain ⟨z0, z1, z2, z3, z4, z5, z6⟩ := HZ.out; omega) (Nat.le_refl _)
  have HBW16 : Hid (Below WB.heap.size WB wn) := Own.Chg.below HBW15.out hC (fun g hg => by obtain ⟨z0, z1, z2, z3, z4, z5, z6⟩ := HZ.out; omega) (Nat.le_refl _)
  have HBS16 : Hid (Below ws.heap.size ws wn) := Own.Chg.below HBS15.out hC (fun g hg => by obtain ⟨z0, z1, z2, z3, z4, z5, z6⟩ := HZ.out; omega) (Nat.le_refl _)
  have HOG := Lib.hid (HOG.out.chg hC (Own.inP_mono HPG.out.1 (fun g hg => by obtain ⟨z0, z1, z2, z3, z4, z5, z6⟩ := HZ.out; omega)) (fun u hu => Own.inP_mono (HPG.out.2 u hu) (fun g hg => by obtain ⟨z0, z1, z2, z3, z4, z5, z6⟩ := HZ.out; omega)))
  clear hC HO4 HO5 HP2 HQ2 HMK2 hm1 g0 g1 g2 g3 g4 g5 gz
  obtain ⟨w72, rfl⟩ : ∃ W, W = wn := ⟨wn, rfl⟩
  have hmz : (0 : Int) ≤ (km2 : Int) := by omega
  generalize (km2 : Int) = mz at *
  have hmn : ¬ mz < 0 := by omega
  have hmd : decide (mz < 0) = false := by simp; omega
  clear hm2
  go_wp2_with fail
  refine (HEQ.out _ _ _ _ _ _ _ ?eqa2 ?eqb2).mono ?_
  case eqa2 => first | exact (by obtain ⟨_, _, e, _, hx⟩ := rowsI_rd ⟨_, HOG.out⟩; cases e; exact hx) | exact HRD14.out.later HBS16.out
  case eqb2 => first | exact (by obtain ⟨_, _, e, _, hx⟩ := rowsI_rd ⟨_, HOG.out⟩; cases e; exact hx) | exact HRD14.out.later HBS16.out
  rintro e w73 ⟨rfl, hb73⟩
  have HB17 := Lib.hid (HB16.out.later hb73)
  have HBW17 := Lib.hid (HBW16.out.later hb73)
  have HBS17 := Lib.hid (HBS16.out.later hb73)
  have HOG := Lib.hid (HOG.out.later hb73)
  clear hb73 hmz hmn hmd
  go_wp2_with fail
  refine (HMR.out _ _ (fun g => WX.heap.size ≤ g ∧ g < wg.heap.size) _ _ HOG.out HPG.out.1 HPG.out.2).mono ?_
  rintro e wn ⟨rfl, hO, hC⟩
  have HB18 : Hid (Below w.heap.size w wn) := Own.Chg.below HB17.out hC (fun g hg => by obtain ⟨z0, z1, z2, z3, z4, z5, z6⟩ := HZ.out; omega) (Nat.le_refl _)
  have HBW18 : Hid (Below WB.heap.size WB wn) := Own.Chg.below HBW17.out hC (fun g hg => by obtain ⟨z0, z1, z2, z3, z4, z5, z6⟩ := HZ.out; omega) (Nat.le_refl _)
  have HBS18 : Hid (Below ws.heap.size ws wn) := Own.Chg.below HBS17.out hC (fun g hg => by obtain ⟨z0, z1, z2, z3, z4, z5, z6⟩ := HZ.out; omega) (Nat.le_refl _)
  have HOG := Lib.hid hO
  clear hC hO HPG HMR
  obtain ⟨w74, rfl⟩ : ∃ W, W = wn := ⟨wn, rfl⟩
  have hM0 : (0 : Int) ≤ ((mkAtR rs 1 rs.length : Nat) : Int) := by omega
  go_wp2_with fail
  refine (HHR.out _ _ _ _ rfl (by obtain ⟨_, _, e, _, hx⟩ := rowsI_rd ⟨_, HOG.out⟩; rw [mkRows_len] at e hx; cases e; exact hx)).mono ?_
  rintro e w75 ⟨rfl, hbw75⟩
  have HB19 := Lib.hid (HB18.out.later hbw75)
  have HBW19 := Lib.hid (HBW18.out.later hbw75)
  have HBS19 := Lib.hid (HBS18.out.later hbw75)
  have HOG := Lib.hid (HOG.out.later hbw75)
  clear hbw75
  obtain ⟨M2, hM2⟩ : ∃ M2 : Int, M2 = ((mkAtR rs 1 rs.length : Nat) : Int) := ⟨_, rfl⟩
  have HM2 := Lib.hid hM2
  rw [← hM2] at hM0 ⊢
  have hMn : ¬ M2 < 0 := by omega
  clear hM2
  obtain ⟨s0, s1, s2, s3, s4, s5, s6, s7, s8, s9, s10, s11, s12, s13⟩ := HS1.out _ HBW19.out
  go_wp2_with fail
  go_region_held3 (fun w' => w'.cell? ⟨w.heap.size, 0, none⟩ = some (.slice A0 n0 q0) ∧ w'.cell? ⟨w.heap.size + 1, 0, none⟩ = some (.string b.name) ∧ w'.cell? ⟨w.heap.size + 1, 1, none⟩ = some (.string b.glob) ∧ w'.cell? ⟨w.heap.size + 1, 2, none⟩ = some (.slice A2 n2 q2) ∧ w'.cell? ⟨w.heap.size + 1, 3, none⟩ = some (.slice A3 n3 q3) ∧ w'.cell? ⟨w.heap.size + 1 + 1, 0, none⟩ = some (.string d.table) ∧ w'.cell? ⟨w.heap.size + 1 + 1, 1, none⟩ = some (.slice B1 m1 r1) ∧ w'.cell? ⟨w.heap.size + 1 + 1, 2, none⟩ = some (.slice B2 m2 r2) ∧ w'.cell? ⟨w.heap.size + 1 + 1, 3, none⟩ = some (.string d.order) ∧ w'.cell? ⟨w.heap.size + 1 + 1, 4, none⟩ = some (.bool d.desc) ∧ w'.cell? ⟨w.heap.size + 1 + 1, 5, none⟩ = some (.int .i64 d.limit) ∧ w'.cell? ⟨w.heap.size + 1 + 1 + 1, 0, none⟩ = some (.int .i64 p.kind) ∧ w'.cell? ⟨w.heap.size + 1 + 1 + 1, 1, none⟩ = some (.string p.col) ∧ w'.cell? ⟨w.heap.size + 1 + 1 + 1, 2, none⟩ = some (.string p.val)) (first | exact HS1.out _ (HBW19.out.later hb84) | exact HS1.out _ (HBW19.out.later hb83) | exact HS1.out _ (HBW19.out.later hb82) | exact HS1.out _ (HBW19.out.later hb81) | exact HS1.out _ (HBW19.out.later hb80) | exact HS1.out _ HBW19.out.drew)
    (first
      | (go_at_call 11; refine (HTO0.out _ (by exact HB19.out.drew)).mono ?_; rintro e w80 ⟨t0, rfl, hr80, hb80'⟩; have hb80 := undrew hb80'; have HR80 := Lib.hid hr80; clear hr80 hb80')
      | (go_at_call 12; refine (HTO1.out _ (by exact HB19.out.later hb80)).mono ?_; rintro e w81 ⟨u0, u1, u2, u3, rfl, hr81, hb81'⟩; have hb81 := hb80.later hb81'; have HR81 := Lib.hid hr81; have HR80 := Lib.hid (HR80.out.later hb81'); clear hr81 hb81')
      | (go_at_call 13; refine (HTO2.out _ (by exact HB19.out.later hb81)).mono ?_; rintro e w82 ⟨y0, y1, y2, y3, y4, y5, rfl, hr82, hb82'⟩; have hb82 := hb81.later hb82'; have HR82 := Lib.hid hr82; have HR80 := Lib.hid (HR80.out.later hb82'); have HR81 := Lib.hid (HR81.out.later hb82'); clear hr82 hb82')
      | (go_at_call 14; refine (HTO3.out _ (by exact HB19.out.later hb82)).mono ?_; rintro e w83 ⟨z0, z1, z2, rfl, hr83, hb83'⟩; have hb83 := hb82.later hb83'; have HR83 := Lib.hid hr83; have HR80 := Lib.hid (HR80.out.later hb83'); have HR81 := Lib.hid (HR81.out.later hb83'); have HR82 := Lib.hid (HR82.out.later hb83'); clear hr83 hb83')
      | (go_at_call 28; refine (HIM.out _ (by exact HB19.out.later hb83) _ _ _ _ _ _ _ _ _ _ _ _ _ _ HR80.out HR81.out HR82.out HR83.out).mono ?_; rintro e w84 ⟨rv, rfl, hro, hb84'⟩; have hb84 := hb83.later hb84'; obtain ⟨RA, rcap, rfl, _, hrd⟩ := rowsI_rd hro; have HRD84 := Lib.hid hrd; clear hb84' hro hrd))
  have HB20 := Lib.hid (HB19.out.later hb84)
  have HBW20 := Lib.hid (HBW19.out.later hb84)
  have HBS20 := Lib.hid (HBS19.out.later hb84)
  have HOG := Lib.hid (HOG.out.later hb84)
  clear hb80 hb81 hb82 hb83 hb84 HR80 HR81 HR82 HR83 s0 s1 s2 s3 s4 s5 s6 s7 s8 s9 s10 s11 s12 s13
  go_wp2_with fail
  refine (HEQ.out _ _ _ _ _ _ _ ?eqa3 ?eqb3).mono ?_
  case eqa3 => first | exact HRD84.out | exact HRD14.out.later HBS20.out
  case eqb3 => first | exact HRD84.out | exact HRD14.out.later HBS20.out
  rintro e w85 ⟨rfl, hb85⟩
  have HB21 := Lib.hid (HB20.out.later hb85)
  have HOG := Lib.hid (HOG.out.later hb85)
  clear hb85
  go_wp2_with fail
  refine (HHR.out _ _ _ _ rfl (by obtain ⟨_, _, e, _, hx⟩ := rowsI_rd ⟨_, HOG.out⟩; rw [mkRows_len] at e hx; cases e; exact hx)).mono ?_
  rintro e w86 ⟨rfl, hb86⟩
  have HB22 := Lib.hid (HB21.out.later hb86)
  rw [← HM2.out]
  clear hb86
  go_wp2_with fail
  go_ret
  exact ⟨rfl, HB22.out⟩
end Go.Proofs.YtalpafaflgddpaaGreatDoor

