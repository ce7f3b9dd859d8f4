/-
  Plans of the program: slices.Index and slices.Contains at conditions. Plans of the program: what PlanFits computes: just what the reference's does. (Printed by gen_pi7.py.) Rows of items as cells; rows of the call's own cut short and cleared; what slices.DeleteFunc keeps. Nodes of the program: slices.Clone and slices.DeleteFunc at nodes. Row nodes of the program: what isRowNode, rowNodes and its closure make: just the reference's list. Index nodes of the program: what keysBy makes; the closure of PlanCost. (Printed by gen_pc2.py.) Plain laws of row nodes: in a right tree the nodes of a table's rows with one key are at most one. Plans of the reference: what PlanCost computes. (Printed by gen_pc3.py.) Plans of the program: what PlanCost computes. (Printed by gen_pc3.py.)
-/
import Derived.Test.YtalpafaflgddpaaGreatDoorPi5
import Derived.Test.YtalpafaflgddpaaGreatDoorQr3
import Derived.Test.YtalpafaflgddpaaGreatDoorNd1
import Derived.Test.YtalpafaflgddpaaGreatDoorPi2
import Derived.Lib.SliceRun
import Derived.Laws.CopyRow
import Derived.Laws.CopyOwn
import Derived.Test.YtalpafaflgddpaaGreatDoorNd2
import Derived.Test.YtalpafaflgddpaaGreatDoorNd3
import Derived.Test.YtalpafaflgddpaaGreatDoorOrdImpl3
import Derived.Test.YtalpafaflgddpaaGreatDoorTrI
import Derived.Test.YtalpafaflgddpaaGreatDoorOrdP
namespace Go.Proofs.YtalpafaflgddpaaGreatDoor
open Go.RowKit

def sameC (a b : CondD) : Bool := decide (a.col = b.col) && (decide (a.op = b.op) && decide (a.val = b.val))
set_option maxRecDepth 100000 in
set_option maxHeartbeats 2000000 in
theorem IndexCond_any (A : Option Addr) (n c : Nat) (fs : List CondD) (x : CondD) (w : World) (h : Conds w w.heap.size A n fs) (hn : n ≤ 1048576) :
    Calls Tryz.prog 115 #[.slice A n c, .agg #[.string x.col, .int .i64 x.op, .string x.val]] w fun e w' => e = .returned (.int .i64 (idxF (sameC x) fs 0)) ∧ Below w.heap.size w w' := by
  have Hh := Lib.hid h
  have Hlen := Lib.hid h.1
  clear h
  have HB0 := Lib.hid (fun q => below_drewN (Below.new w (.cells #[.string x.col, .int .i64 x.op, .string x.val] 101)) q)
  have HP : Hid (∀ d, sameC x d = (decide (x.col = d.col) && (decide (x.op = d.op) && decide (x.val = d.val)))) := fun _ => rfl
  generalize sameC x = P at *
  generalize x.col = xc at *
  generalize x.op = xo at *
  generalize x.val = xv at *
  go_enter Tryz.func115, Tryz.ntmps115
  go_wp2_with fail
  go_loopw [8] (fun i wr => ∃ k q : Nat, k ≤ n ∧ i = .int .i64 k ∧ wr = (w.alloc (.cells #[.string xc, .int .i64 xo, .string xv] 101)).drewN q ∧ Hid (idxF P fs 0 = idxF P (fs.drop k) k)) (fun i _ => n - (intOf i).toNat)
  case atStart => exact ⟨0, 0, Nat.zero_le _, rfl, rfl, rfl⟩
  case round =>
    obtain ⟨k, q, hk, rfl, rfl, hS⟩ := hrel
    by_cases hlt : k < n
    · obtain ⟨b, o, rfl, hbB, hcell⟩ := Hh.out.2 (by omega)
      obtain ⟨c0, c1, c2, k0, k1, k2, hr⟩ := hcell k hlt
      clear hcell
      have hl : k < fs.length := by rw [Hlen.out]; exact hlt
      have HS := Lib.hid (idxF_step P fs k hl)
      have HPd := Lib.hid (HP.out (fs.getD k default))
      have i1 : (k : Int) < (n : Int) := by omega
      clear hl
      generalize fs.getD k default = f at *
      obtain ⟨a0, a1, a2⟩ := hr
      subst a0 a1 a2
      generalize P f = X at *
      generalize f.col = fc at *
      generalize f.op = fo at *
      generalize f.val = fv at *
      by_cases h1 : xc = fc
      case neg =>
        have HE : Hid (idxF P fs 0 = idxF P (fs.drop (k + 1)) (k + 1)) := by unfold Hid; rw [hS.out, HS.out, HPd.out, decide_eq_false h1]; rfl
        have hbe := str_beq h1
        clear h1
        go_wp2_with fail
        go_quiet (fail)
        go_wp2_with fail
        go_roundw
        case rel => exact ⟨k + 1, _, by omega, by go_num, rfl, HE.out⟩
        case measure => simp [intOf]; omega
      subst h1
      by_cases h2 : xo = fo
      case neg =>
        have HE : Hid (idxF P fs 0 = idxF P (fs.drop (k + 1)) (k + 1)) := by unfold Hid; rw [hS.out, HS.out, HPd.out, decide_eq_false h2]; simp
        have hbe := int_beq h2
        clear h2
        go_wp2_with fail
        go_quiet (fail)
        go_wp2_with fail
        go_roundw
        case rel => exact ⟨k + 1, _, by omega, by go_num, rfl, HE.out⟩
        case measure => simp [intOf]; omega
      subst h2
      by_cases h3 : xv = fv
      case neg =>
        have HE : Hid (idxF P fs 0 = idxF P (fs.drop (k + 1)) (k + 1)) := by unfold Hid; rw [hS.out, HS.out, HPd.out, decide_eq_false h3]; simp
        have hbe := str_beq h3
        clear h3
        go_wp2_with fail
        go_quiet (fail)
        go_wp2_with fail
        go_roundw
        case rel => exact ⟨k + 1, _, by omega, by go_num, rfl, HE.out⟩
        case measure => simp [intOf]; omega
      subst h3
      have HE : Hid (idxF P fs 0 = k) := by unfold Hid; rw [hS.out, HS.out, HPd.out]; simp
      go_wp2_with fail
      go_quiet (fail)
      go_wp2_with fail
      go_ret
      exact ⟨ret_int HE.out.symm, by first | exact HB0.out _ | exact below_drewN (HB0.out _) _⟩
    · have HE : Hid (idxF P fs 0 = -1) := by unfold Hid; rw [hS.out, List.drop_of_length_le (by rw [Hlen.out]; omega)]; rfl
      go_wp2_with fail
      go_ret
      exact ⟨ret_int HE.out.symm, HB0.out _⟩
set_option maxHeartbeats 1000000 in
theorem ContainsCond_any (A : Option Addr) (n c : Nat) (fs : List CondD) (x : CondD) (w : World) (h : Conds w w.heap.size A n fs) (hn : n ≤ 1048576) :
    Calls Tryz.prog 74 #[.slice A n c, .agg #[.string x.col, .int .i64 x.op, .string x.val]] w fun e w' => e = .returned (.bool (fs.any (sameC x))) ∧ Below w.heap.size w w' := by
  have HK := Lib.hid (fun o => IndexCond_any A n c fs x (w.alloc o) (h.later (Below.new _ _)) hn)
  have hE := idxF_any (sameC x) fs 0
  clear h
  generalize fs.any (sameC x) = R at *
  generalize idxF (sameC x) fs 0 = y at *
  have HE := Lib.hid hE
  clear hE
  go_enter Tryz.func74, Tryz.ntmps74
  go_wp2_with fail
  refine (HK.out _).mono ?_
  rintro e w' ⟨rfl, hb1⟩
  have HB1 := Lib.hid ((Below.new w _).later hb1)
  clear hb1
  go_wp2_with fail
  go_ret
  exact ⟨ret_bool HE.out, HB1.out⟩
theorem hit_eq (p : PlanD) (l : List CondD) : (decide (p.val ≠ ⟨#[]⟩) && l.any (sameC ⟨p.col, 1, p.val⟩)) = l.any (hitP p) := by
  induction l with
  | nil => simp
  | cons c r ih =>
    rw [List.any_cons, List.any_cons, ← ih]
    unfold sameC hitP
    by_cases h1 : c.op = 1
    · by_cases h2 : c.col = p.col
      · by_cases h3 : c.val = p.val
        · simp only [h1, h2, h3, decide_true, Bool.true_and]
          cases decide (p.val ≠ ⟨#[]⟩) <;> simp
        · have h3' : ¬ p.val = c.val := fun e => h3 e.symm
          simp [h1, h2, h3, h3']
      · have h2' : ¬ p.col = c.col := fun e => h2 e.symm
        simp [h2, h2']
    · have h1' : ¬ (1 : Int) = c.op := fun e => h1 e.symm
      simp [h1, h1']
end Go.Proofs.YtalpafaflgddpaaGreatDoor

namespace Go.Proofs.YtalpafaflgddpaaGreatDoor
open Go.RowKit

set_option maxRecDepth 100000 in
set_option maxHeartbeats 4000000 in
theorem PlanFits_any (b0 b1 b2 b3 c0 c1 c2 c3 c4 c5 e0 e1 e2 : Value) (b : TableD) (d : QueryD) (p : PlanD) (w : World) (hb : TableR w w.heap.size b0 b1 b2 b3 b) (h : QueryR w w.heap.size c0 c1 c2 c3 c4 c5 d) (hp : PlanR w w.heap.size e0 e1 e2 p) (hbs : b.small) (hs : d.small) :
    Calls Tryz.prog 41 #[.agg #[b0, b1, b2, b3], .agg #[c0, c1, c2, c3, c4, c5], .agg #[e0, e1, e2]] w fun e w' => e = .returned (.bool (fitsP b d p)) ∧ Below w.heap.size w w' := by
  have HK1 := Lib.hid (fun W (hW : Below w.heap.size w W) => QueryFits_any b0 b1 b2 b3 c0 c1 c2 c3 c4 c5 b d W (hb.later hW) (h.later hW) hbs hs)
  have HPos : Hid (fitsB b d = true → 0 < b.cols.length) := fun hq => fits_pos hq
  obtain ⟨rfl, rfl, ⟨A2, n2, p2, rfl, s2, k2⟩, ⟨A3, n3, p3, rfl, s3, k3⟩⟩ := hb
  obtain ⟨rfl, ⟨B1, m1, q1, rfl, t1, l1⟩, ⟨B2, m2, q2, rfl, t2, l2⟩, rfl, rfl, rfl⟩ := h
  obtain ⟨rfl, rfl, rfl⟩ := hp
  have hn3 : n3 ≤ 1048576 := by rw [← s3.1]; exact hbs.2.2.2.1
  have hm2 : m2 ≤ 1048576 := by rw [← t2.1]; exact hs.2.2.1.1
  rw [s2.1] at HPos
  have HS2 := Lib.hid s2
  have HKI := Lib.hid (fun W (hW : Below w.heap.size w W) => ContainsS_any A3 n3 p3 b.idx p.col W (s3.later hW) hn3)
  have HI : Hid (inP b.idx p.col = decide (0 ≤ placeI b.idx p.col)) := rfl
  rw [← HI.out] at HKI
  have HKC := Lib.hid (fun W (hW : Below w.heap.size w W) => ContainsCond_any B2 m2 q2 d.wher ⟨p.col, 1, p.val⟩ W (t2.later hW) hm2)
  dsimp only at HKC
  have HR : Hid (fitsP b d p = (fitsB b d && (if p.kind = 3 then decide (p.col = ⟨#[]⟩) && decide (p.val = ⟨#[]⟩) else if p.kind = 1 then decide (p.col = b.cols.getD 0 ByteArray.empty) && (decide (p.val ≠ ⟨#[]⟩) && d.wher.any (sameC ⟨p.col, 1, p.val⟩)) else if p.kind = 2 then inP b.idx p.col && (decide (p.val ≠ ⟨#[]⟩) && d.wher.any (sameC ⟨p.col, 1, p.val⟩)) else false))) := by
    unfold Hid; rw [hit_eq]; rfl
  clear s2 s3 t1 t2 hs hbs
  generalize fitsP b d p = R at *
  generalize fitsB b d = x at *
  generalize d.wher.any (sameC ⟨p.col, 1, p.val⟩) = X at *
  generalize inP b.idx p.col = xi at *
  generalize b.name = nm at *
  generalize b.glob = gl at *
  generalize b.cols = bc at *
  generalize d.table = tb at *
  generalize d.order = od at *
  generalize d.desc = ds at *
  generalize d.limit = lm at *
  generalize p.kind = kd at *
  generalize p.col = pc at *
  generalize p.val = pv at *
  have HB0 := Lib.hid (below_new3 w (.cells #[.string nm, .string gl, .slice A2 n2 p2, .slice A3 n3 p3] 43) (.cells #[.string tb, .slice B1 m1 q1, .slice B2 m2 q2, .string od, .bool ds, .int .i64 lm] 47) (.cells #[.int .i64 kd, .string pc, .string pv] 49))
  go_enter Tryz.func41, Tryz.ntmps41
  go_wp2_with fail
  refine (HK1.out _ HB0.out).mono ?_
  rintro e w1 ⟨rfl, hb1⟩
  have px := (Blk.later (heap_new0 w _ _ _) hb1 (by simp; omega)).cell
  have py := (Blk.later (heap_new1 w _ _ _) hb1 (by simp)).cell
  have pz := (Blk.later (heap_new2 w _ _ _) hb1 (by simp)).cell
  have HB := Lib.hid (HB0.out.later hb1)
  have hz := hb1.size
  simp at hz
  clear hb1
  cases x
  · have HE : Hid (R = false) := by unfold Hid; rw [HR.out]; rfl
    go_wp2_with fail
    go_ret
    exact ⟨ret_bool HE.out.symm, HB.out⟩
  have hpos := HPos.out (by trivial)
  by_cases k3' : kd = 3
  · have HR3 : Hid (R = (decide (pc = ⟨#[]⟩) && decide (pv = ⟨#[]⟩))) := by unfold Hid; rw [HR.out, if_pos k3']; rfl
    subst k3'
    by_cases h1 : pc = ⟨#[]⟩
    · by_cases h2 : pv = ⟨#[]⟩
      · have HE : Hid (R = true) := by unfold Hid; rw [HR3.out, decide_eq_true h1, decide_eq_true h2]; rfl
        subst h1 h2
        go_wp2_with fail
        go_ret
        exact ⟨ret_bool HE.out.symm, HB.out⟩
      · have HE : Hid (R = false) := by unfold Hid; rw [HR3.out, decide_eq_false h2]; simp
        have hbe := str_beq h2
        have hbe3 := ne_empty h2
        subst h1
        clear h2
        go_wp2_with fail
        go_ret
        exact ⟨ret_bool HE.out.symm, HB.out⟩
    · have HE : Hid (R = false) := by unfold Hid; rw [HR3.out, decide_eq_false h1]; rfl
      have hbe := str_beq h1
      have hbe3 := ne_empty h1
      clear h1
      go_wp2_with fail
      go_ret
      exact ⟨ret_bool HE.out.symm, HB.out⟩
  by_cases k1' : kd = 1
  · subst k1'
    obtain ⟨sb, so, e1, hsb, hsc⟩ := (HS2.out.later HB.out).2 hpos
    subst e1
    have hck := hsc 0 hpos
    rw [Nat.add_zero] at hck
    clear hsc
    have i0 : (0 : Int) < (n2 : Int) := by omega
    have x2 := px 2
    have z1 := pz 1
    simp at x2 z1
    generalize bc.getD 0 ByteArray.empty = key at *
    have HR1 : Hid (R = (decide (pc = key) && (decide (pv ≠ ⟨#[]⟩) && X))) := by unfold Hid; rw [HR.out, if_neg (by omega), if_pos rfl]; rfl
    clear HR k3'
    go_wp2_with fail
    by_cases hk : pc = key
    case neg =>
      have HE : Hid (R = false) := by unfold Hid; rw [HR1.out, decide_eq_false hk]; rfl
      have hbe := str_bne hk
      have hbe2 := str_beq hk
      clear hk
      go_quiet (fail)
      go_wp2_with fail
      go_ret
      exact ⟨ret_bool HE.out.symm, below_drewN HB.out _⟩
    subst hk
    have HE : Hid (R = (decide (pv ≠ ⟨#[]⟩) && X)) := by unfold Hid; rw [HR1.out]; simp
    clear HR1
    go_quiet (fail)
    by_cases h4 : pv = ⟨#[]⟩
    · have HE2 : Hid (R = false) := by unfold Hid; rw [HE.out, decide_eq_false (fun h => h h4)]; rfl
      subst h4
      go_wp2_with fail
      go_ret
      exact ⟨ret_bool HE2.out.symm, (below_drewN HB.out _)⟩
    · have HE2 : Hid (R = X) := by unfold Hid; rw [HE.out, decide_eq_true h4]; rfl
      have hbe := str_beq h4
      have hbn := str_bne h4
      have hbe3 := ne_empty h4
      clear h4
      go_wp2_with fail
      refine (HKC.out _ (below_drewN HB.out _)).mono ?_
      rintro e w5 ⟨rfl, hb5⟩
      have HB5 := Lib.hid (Below.later (below_drewN HB.out _) hb5)
      clear hb5
      go_wp2_with fail
      go_ret
      exact ⟨ret_bool HE2.out.symm, HB5.out⟩
  by_cases k2' : kd = 2
  · subst k2'
    have HR1 : Hid (R = (xi && (decide (pv ≠ ⟨#[]⟩) && X))) := by unfold Hid; rw [HR.out, if_neg (by omega), if_neg (by omega), if_pos rfl]; rfl
    clear HR k3' k1'
    go_wp2_with fail
    refine (HKI.out _ HB.out).mono ?_
    rintro e w3 ⟨rfl, rfl⟩
    cases xi
    · have HE : Hid (R = false) := by unfold Hid; rw [HR1.out]; rfl
      go_wp2_with fail
      go_ret
      exact ⟨ret_bool HE.out.symm, HB.out⟩
    have HE : Hid (R = (decide (pv ≠ ⟨#[]⟩) && X)) := by unfold Hid; rw [HR1.out]; rfl
    clear HR1
    by_cases h4 : pv = ⟨#[]⟩
    · have HE2 : Hid (R = false) := by unfold Hid; rw [HE.out, decide_eq_false (fun h => h h4)]; rfl
      subst h4
      go_wp2_with fail
      go_ret
      exact ⟨ret_bool HE2.out.symm, HB.out⟩
    · have HE2 : Hid (R = X) := by unfold Hid; rw [HE.out, decide_eq_true h4]; rfl
      have hbe := str_beq h4
      have hbn := str_bne h4
      have hbe3 := ne_empty h4
      clear h4
      go_wp2_with fail
      refine (HKC.out _ HB.out).mono ?_
      rintro e w5 ⟨rfl, hb5⟩
      have HB5 := Lib.hid (Below.later HB.out hb5)
      clear hb5
      go_wp2_with fail
      go_ret
      exact ⟨ret_bool HE2.out.symm, HB5.out⟩
  · have HE : Hid (R = false) := by unfold Hid; rw [HR.out, if_neg k3', if_neg k1', if_neg k2']; rfl
    have i1 := int_beq k3'
    have i2 := int_beq k1'
    have i3 := int_beq k2'
    clear HR k3' k1' k2'
    go_wp2_with fail
    go_ret
    exact ⟨ret_bool HE.out.symm, HB.out⟩
end Go.Proofs.YtalpafaflgddpaaGreatDoor

namespace Go.Proofs.YtalpafaflgddpaaGreatDoor
open Go.RowKit

theorem add_offN (g o j : Nat) : (⟨g, o, none⟩ : Addr).add j = ⟨g, o + j, none⟩ := by
  unfold Addr.add
  split
  · rename_i h0; subst h0; rfl
  · rfl
/-- Cells that read as items, sz cells each. -/
def CellsG {α : Type} (sz : Nat) (R : List Value → α → Prop) : List α → List Value → Prop
  | [], cs => cs = []
  | d :: r, cs => ∃ c cs', cs = c ++ cs' ∧ c.length = sz ∧ R c d ∧ CellsG sz R r cs'
section
variable {α : Type} {sz : Nat} {R R' : List Value → α → Prop}
theorem CellsG.len : ∀ {fs : List α} {cs : List Value}, CellsG sz R fs cs → cs.length = fs.length * sz
  | [], cs, h => by
    have h : cs = [] := h
    subst h; simp
  | d :: r, cs, h => by
    obtain ⟨c, cs', rfl, hl, _, hr⟩ := h
    have := hr.len
    simp only [List.length_append, List.length_cons, this, hl, Nat.add_mul]
    omega
theorem CellsG.mono (hR : ∀ c d, R c d → R' c d) : ∀ {fs : List α} {cs : List Value}, CellsG sz R fs cs → CellsG sz R' fs cs
  | [], _, h => h
  | _ :: _, _, h => by
    obtain ⟨c, cs', rfl, hl, hd, hr⟩ := h
    exact ⟨c, cs', rfl, hl, hR _ _ hd, CellsG.mono hR hr⟩
theorem CellsG.all {Q : Value → Prop} (hR : ∀ c d, R c d → ∀ u ∈ c, Q u) : ∀ {fs : List α} {cs : List Value}, CellsG sz R fs cs → ∀ u ∈ cs, Q u
  | [], cs, h, u, hu => by
    have h : cs = [] := h
    subst h; simp at hu
  | _ :: _, _, h, u, hu => by
    obtain ⟨c, cs', rfl, hl, hd, hr⟩ := h
    rw [List.mem_append] at hu
    rcases hu with hu | hu
    · exact hR _ _ hd u hu
    · exact CellsG.all hR hr u hu
theorem CellsG.take : ∀ {fs : List α} {cs : List Value} (k : Nat), CellsG sz R fs cs → CellsG sz R (fs.take k) (cs.take (k * sz))
  | [], cs, k, h => by
    have h : cs = [] := h
    subst h
    simp [CellsG]
  | d :: r, cs, 0, h => by simp [CellsG]
  | d :: r, cs, k + 1, h => by
    obtain ⟨c, cs', rfl, hl, hd, hr⟩ := h
    refine ⟨c, cs'.take (k * sz), ?_, hl, hd, CellsG.take k hr⟩
    rw [show (k + 1) * sz = c.length + k * sz by rw [hl, Nat.add_mul]; omega, List.take_length_add_append]
theorem CellsG.snoc {d : α} {c : List Value} (hd : R c d) (hl : c.length = sz) : ∀ {fs : List α} {cs : List Value}, CellsG sz R fs cs → CellsG sz R (fs ++ [d]) (cs ++ c)
  | [], cs, h => by
    have h : cs = [] := h
    subst h
    exact ⟨c, [], by simp, hl, hd, rfl⟩
  | f :: r, cs, h => by
    obtain ⟨c', cs', rfl, hl', hd', hr⟩ := h
    exact ⟨c', cs' ++ c, by simp, hl', hd', CellsG.snoc hd hl hr⟩
theorem CellsG.at [Inhabited α] : ∀ {fs : List α} {cs : List Value} (j : Nat), CellsG sz R fs cs → j < fs.length → ∃ c, c.length = sz ∧ R c (fs.getD j default) ∧ ∀ t, t < sz → cs[j * sz + t]? = c[t]?
  | [], _, j, _, hj => by simp at hj
  | f :: r, cs, 0, h, _ => by
    obtain ⟨c, cs', rfl, hl, hd, hr⟩ := h
    refine ⟨c, hl, by simpa using hd, fun t ht => ?_⟩
    rw [Nat.zero_mul, Nat.zero_add, List.getElem?_append_left (by omega)]
  | f :: r, cs, j + 1, h, hj => by
    obtain ⟨c, cs', rfl, hl, hd, hr⟩ := h
    obtain ⟨c2, h1, h2, h3⟩ := CellsG.at j hr (by simpa using hj)
    refine ⟨c2, h1, by simpa using h2, fun t ht => ?_⟩
    rw [← h3 t ht, show (j + 1) * sz + t = c.length + (j * sz + t) by rw [hl, Nat.add_mul]; omega, List.getElem?_append_right (by omega), Nat.add_sub_cancel_left]
end
/-- Cells laid in memory, gathered. -/
theorem cells_gather {α : Type} [Inhabited α] {sz : Nat} {R : List Value → α → Prop} {w : World} (b : Nat) : ∀ (fs : List α) (o : Nat), (∀ j, j < fs.length → ∃ c, c.length = sz ∧ R c (fs.getD j default) ∧ ∀ t, t < sz → w.cell? ⟨b, o + j * sz + t, none⟩ = c[t]?) → ∃ cs, CellsG sz R fs cs ∧ ∀ j u, cs[j]? = some u → w.cell? ⟨b, o + j, none⟩ = some u
  | [], o, _ => ⟨[], rfl, fun j u hu => by simp at hu⟩
  | d :: r, o, h => by
    obtain ⟨c, hl, hr, hx⟩ := h 0 (by simp)
    obtain ⟨cs, hc, hy⟩ := cells_gather b r (o + sz) (fun j hj => by
      obtain ⟨c, hl, hr, hx⟩ := h (j + 1) (by simpa using hj)
      refine ⟨c, hl, by simpa using hr, fun t ht => ?_⟩
      rw [← hx t ht, Nat.add_mul, Nat.one_mul]
      congr 2
      omega)
    refine ⟨c ++ cs, ⟨c, cs, rfl, hl, by simpa using hr, hc⟩, fun j u hu => ?_⟩
    by_cases hj : j < sz
    · rw [List.getElem?_append_left (by omega)] at hu
      have := hx j hj
      rw [Nat.zero_mul, Nat.add_zero] at this
      rw [this, hu]
    · rw [List.getElem?_append_right (by omega), hl] at hu
      have := hy (j - sz) u hu
      rw [show o + sz + (j - sz) = o + j by omega] at this
      exact this

/-- A row of the call's own, cut short and its rest cleared. -/
theorem run_clear_own {P : Program} {w : World} {base e size n g cap i : Nat} {xs : List Value} (h : w.ownsRow base e size (.slice (some ⟨g, 0, none⟩) n cap) n xs) (t : TypeId) (ht : P.underlying t = some (.slice e)) (z : Value) (hz : ∀ w, (zeroValue e).run P w = .ok z w) (hzs : z.cells.size = size) (hz1 : ∀ u ∈ (Builtin.zeroCells z.cells (n - i)).toList, u.oneCell' = true) (hin : i < n) (c : Nat) :
    ∃ w', (∀ ty, (Builtin.clear_ #[t] ty #[.slice (some ⟨g, i * size, none⟩) (n - i) c]).run P w = .ok (.tuple #[]) w') ∧ w'.ownsRow base e size (.slice (some ⟨g, 0, none⟩) i cap) i (xs.take (i * size)) ∧ w.grownBy w' (some g) := by
  obtain ⟨hlen, hor⟩ := h
  rcases hor with ⟨h0, _⟩ | ⟨g', cap', cur, he, hbase, hg, hnc, hcm, hcs, htk⟩
  · cases h0
  obtain ⟨rfl, rfl⟩ : g = g' ∧ cap = cap' := by simpa using he
  have hzl : (Builtin.zeroCells z.cells (n - i)).toList.length = (n - i) * size := by
    simp [Builtin.zeroCells, hzs]
  have hmul : i * size + (n - i) * size = n * size := by rw [← Nat.add_mul]; congr 1; omega
  have hmc : n * size ≤ cap * size := Nat.mul_le_mul_right _ hnc
  have hst := run_storeCells_at P g (i * size) e (Builtin.zeroCells z.cells (n - i)).toList 0 cur w hg (by rw [hzl, Nat.add_zero]; omega) hz1
  rw [Nat.add_zero, hzl] at hst
  obtain ⟨m, hm⟩ : ∃ m, n - i = m + 1 := ⟨n - i - 1, by omega⟩
  refine ⟨w.setRow g (cur.toList.take (i * size) ++ (Builtin.zeroCells z.cells (n - i)).toList ++ cur.toList.drop (i * size + (n - i) * size)).toArray, fun ty => ?_, ⟨?_, .inr ⟨g, cap, _, rfl, hbase, setRow_heap _ _ _ _ _ _ hg, by omega, hcm, ?_, ?_⟩⟩, ?_⟩
  · rw [hm] at hst ⊢
    simp [Builtin.clear_, run_underlying ht, hz]
    simp at hst
    rw [hst]
    rfl
  · rw [List.length_take, hlen]
    have : i * size ≤ n * size := Nat.mul_le_mul_right _ (by omega)
    omega
  · simp only [List.size_toArray, List.length_append, List.length_take, List.length_drop, Array.length_toList, hzl, hcs]
    omega
  · rw [List.append_assoc, List.take_left' (by rw [List.length_take, Array.length_toList, hcs]; omega), ← htk, List.take_take]
    congr 1
    omega
  · exact ⟨rfl, rfl, rfl, by simp, fun k _ hk => setRow_other _ _ _ _ (fun e => hk (by rw [e]))⟩


theorem idxF_cases {α : Type} (p : α → Bool) : ∀ (l : List α) (k : Nat), (idxF p l k = -1 ∧ (l.filter fun d => !p d) = l) ∨ ∃ m, m < l.length ∧ idxF p l k = ((k + m : Nat) : Int) ∧ ((l.take (m + 1)).filter fun d => !p d) = l.take m
  | [], k => .inl ⟨rfl, rfl⟩
  | d :: r, k => by
    by_cases h : p d = true
    · exact .inr ⟨0, by simp, by simp [idxF, h], by simp [h]⟩
    · rcases idxF_cases p r (k + 1) with ⟨e1, e2⟩ | ⟨m, hm, e1, e2⟩
      · exact .inl ⟨by simp [idxF, h, e1], by simp [h, e2]⟩
      · refine .inr ⟨m + 1, by simpa using hm, ?_, ?_⟩
        · simp only [idxF, h, if_false, Bool.false_eq_true, e1]
          congr 1
          omega
        · simp [List.take_succ_cons, h, e2]
/-- The state of slices.DeleteFunc: i kept ahead of place j, what lies from j on as it was. -/
structure KeptG {α : Type} (sz : Nat) (R : List Value → α → Prop) (p : α → Bool) (fs : List α) (cs : List Value) (i j : Nat) (ys : List Value) : Prop where
  len : ys.length = cs.length
  lt : i < j
  le : j ≤ fs.length
  cnt : ((fs.take j).filter fun d => !p d).length = i
  kept : CellsG sz R ((fs.take j).filter fun d => !p d) (ys.take (i * sz))
  rest : ys.drop (j * sz) = cs.drop (j * sz)
section
variable {α : Type} {sz : Nat} {R : List Value → α → Prop} {p : α → Bool} {fs : List α} {cs ys : List Value} {i j : Nat}
theorem KeptG.start {k : Nat} (hc : CellsG sz R fs cs) (hk : k < fs.length) (hf : ((fs.take (k + 1)).filter fun d => !p d) = fs.take k) : KeptG sz R p fs cs k (k + 1) cs :=
  ⟨rfl, by omega, by omega, by rw [hf, List.length_take]; omega, by rw [hf]; exact hc.take k, rfl⟩
theorem KeptG.cell (h : KeptG sz R p fs cs i j ys) (t : Nat) : ys[j * sz + t]? = cs[j * sz + t]? := by
  have := congrArg (fun l : List Value => l[t]?) h.rest
  simpa [List.getElem?_drop] using this
theorem KeptG.skip [Inhabited α] (h : KeptG sz R p fs cs i j ys) (hj : j < fs.length) (hp : p (fs.getD j default) = true) : KeptG sz R p fs cs i (j + 1) ys := by
  have hf : ((fs.take (j + 1)).filter fun d => !p d) = (fs.take j).filter fun d => !p d := by
    rw [filter_snoc (fun d => !p d) fs j hj, if_neg (by rw [hp]; simp)]
  have hlt := h.lt
  refine ⟨h.len, by omega, by omega, by rw [hf]; exact h.cnt, by rw [hf]; exact h.kept, ?_⟩
  have := congrArg (fun l : List Value => l.drop sz) h.rest
  rw [Nat.add_mul, Nat.one_mul]
  simpa [List.drop_drop] using this
theorem KeptG.keep [Inhabited α] (h : KeptG sz R p fs cs i j ys) (hl : cs.length = fs.length * sz) (hj : j < fs.length) (hp : p (fs.getD j default) = false) {c : List Value} (hd : R c (fs.getD j default)) (hcl : c.length = sz) :
    KeptG sz R p fs cs (i + 1) (j + 1) (ys.take (i * sz) ++ c ++ ys.drop ((i + 1) * sz)) := by
  have hf : ((fs.take (j + 1)).filter fun d => !p d) = ((fs.take j).filter fun d => !p d) ++ [fs.getD j default] := by
    rw [filter_snoc (fun d => !p d) fs j hj, if_pos (by rw [hp]; rfl)]
  have hlt := h.lt
  have hlen := h.len
  have e1 : (i + 1) * sz = i * sz + sz := by rw [Nat.add_mul, Nat.one_mul]
  have e2 : (i + 1) * sz ≤ fs.length * sz := Nat.mul_le_mul_right _ (by omega)
  have e3 : (i + 1) * sz ≤ j * sz := Nat.mul_le_mul_right _ (by omega)
  have hA : (ys.take (i * sz) ++ c).length = (i + 1) * sz := by
    rw [List.length_append, List.length_take, hcl]
    omega
  refine ⟨?_, by omega, by omega, by rw [hf, List.length_append, h.cnt]; rfl, ?_, ?_⟩
  · rw [List.length_append, hA, List.length_drop]; omega
  · rw [hf, List.take_left' hA]
    exact CellsG.snoc hd hcl h.kept
  · have h3 : ys.drop ((j + 1) * sz) = cs.drop ((j + 1) * sz) := by
      have := congrArg (fun l : List Value => l.drop sz) h.rest
      rw [Nat.add_mul, Nat.one_mul]
      simpa [List.drop_drop] using this
    have e4 : (j + 1) * sz = j * sz + sz := by rw [Nat.add_mul, Nat.one_mul]
    rw [← h3, List.drop_append, hA, List.drop_of_length_le (by rw [hA]; omega), List.nil_append, List.drop_drop]
    congr 1
    omega
theorem KeptG.done (h : KeptG sz R p fs cs i fs.length ys) : (fs.filter fun d => !p d).length = i ∧ CellsG sz R (fs.filter fun d => !p d) (ys.take (i * sz)) := by
  have h1 := h.cnt
  have h2 := h.kept
  rw [List.take_of_length_le (Nat.le_refl _)] at h1 h2
  exact ⟨h1, h2⟩
end
theorem set3_put (ys : List Value) (i : Nat) (c0 c1 c2 : Value) (h : i * 3 + 2 < ys.length) :
    (((ys.set (i * 3) c0).set (i * 3 + 1) c1).set (i * 3 + 2) c2) = ys.take (i * 3) ++ [c0, c1, c2] ++ ys.drop ((i + 1) * 3) := by
  apply List.ext_getElem?
  intro q
  rw [List.append_assoc, List.getElem?_append, List.getElem?_append]
  simp only [List.getElem?_set, List.length_set, List.length_take, List.length_cons, List.length_nil, List.getElem?_drop, List.getElem?_take]
  rw [Nat.min_eq_left (show i * 3 ≤ ys.length by omega)]
  by_cases h1 : q < i * 3
  · rw [if_neg (by omega), if_neg (by omega), if_neg (by omega), if_pos h1, if_pos h1]
  · rw [if_neg h1]
    by_cases h2 : q < (i + 1) * 3
    · have h3 : q = i * 3 ∨ q = i * 3 + 1 ∨ q = i * 3 + 2 := by omega
      rcases h3 with rfl | rfl | rfl
      · rw [if_neg (by omega), if_neg (by omega), if_pos rfl, if_pos (by omega), if_pos (by omega), Nat.sub_self]; rfl
      · rw [if_neg (by omega), if_pos rfl, if_pos (by omega), if_pos (by omega), show i * 3 + 1 - i * 3 = 1 by omega]; rfl
      · rw [if_pos rfl, if_pos (by omega), if_pos (by omega), show i * 3 + 2 - i * 3 = 2 by omega]; rfl
    · rw [if_neg (by omega), if_neg (by omega), if_neg (by omega), if_neg (by omega)]
      congr 1
      omega
/-- Nodes as cells. -/
def nodeC (w : World) (B : Nat) (c : List Value) (d : NodeD) : Prop := ∃ c0 c1 c2, c = [c0, c1, c2] ∧ NodeR w B c0 c1 c2 d
theorem cellsN_iff {w : World} : ∀ {fs : List NodeD} {cs : List Value}, CellsN w fs cs ↔ CellsG 3 (nodeC w w.heap.size) fs cs
  | [], _ => Iff.rfl
  | d :: r, cs => by
    constructor
    · rintro ⟨c0, c1, c2, cs', rfl, hd, hr⟩
      exact ⟨[c0, c1, c2], cs', rfl, rfl, ⟨c0, c1, c2, rfl, hd⟩, cellsN_iff.1 hr⟩
    · rintro ⟨c, cs', rfl, _, ⟨c0, c1, c2, rfl, hd⟩, hr⟩
      exact ⟨c0, c1, c2, cs', rfl, hd, cellsN_iff.2 hr⟩
theorem nodeC_one {w : World} {B : Nat} (c : List Value) (d : NodeD) (h : nodeC w B c d) : ∀ u ∈ c, u.oneCell' = true := by
  obtain ⟨_, _, _, rfl, rfl, ⟨A, n, c, rfl, _⟩, rfl⟩ := h
  intro u hu
  simp only [List.mem_cons, List.not_mem_nil, or_false] at hu
  rcases hu with rfl | rfl | rfl <;> rfl
theorem nodes_reads {w : World} {B : Nat} {A : Option Addr} {n : Nat} {fs : List NodeD} (h : Nodes w B A n fs) : ∃ cs, CellsG 3 (nodeC w B) fs cs ∧ Reads w B 3 A n cs := by
  obtain ⟨hl, h2⟩ := h
  rcases Nat.eq_zero_or_pos n with h0 | h0
  · subst h0
    have : fs = [] := List.eq_nil_of_length_eq_zero hl
    subst this
    exact ⟨[], rfl, rfl, fun h => absurd h (by omega)⟩
  · obtain ⟨b, o, rfl, hb, hc⟩ := h2 h0
    obtain ⟨cs, h3, h4⟩ := cells_gather (R := nodeC w B) (sz := 3) (w := w) b fs o (fun j hj => by
      obtain ⟨c0, c1, c2, e0, e1, e2, hr⟩ := hc j (by omega)
      refine ⟨[c0, c1, c2], rfl, ⟨c0, c1, c2, rfl, hr⟩, fun t ht => ?_⟩
      match t, ht with
      | 0, _ => exact e0
      | 1, _ => exact e1
      | 2, _ => exact e2)
    exact ⟨cs, h3, by rw [h3.len, hl], fun _ => ⟨_, rfl, hb, fun j u hu => by rw [add_offN]; exact h4 j u hu⟩⟩
end Go.Proofs.YtalpafaflgddpaaGreatDoor

namespace Go.Proofs.YtalpafaflgddpaaGreatDoor
open Go.RowKit

theorem zero_cells_mem {zero : Array Value} {m : Nat} {u : Value} (h : u ∈ (Builtin.zeroCells zero m).toList) : u ∈ zero.toList := by
  unfold Builtin.zeroCells at h
  simp only [Array.toList_map, List.mem_map] at h
  obtain ⟨i, hi, rfl⟩ := h
  have hi' : i < m * zero.size := by simpa using hi
  have hz : 0 < zero.size := by
    rcases Nat.eq_zero_or_pos zero.size with e | e
    · rw [e] at hi'; omega
    · exact e
  rw [getElem!_pos zero _ (Nat.mod_lt _ hz)]
  simp
theorem zeroNode (w : World) : (zeroValue 78).run Tryz.prog w = .ok (.agg #[.string .empty, .slice none 0 0, .string .empty]) w := by kernel_rfl

/-- A row of the call's own whose cells read as nodes of an earlier world. -/
def RowN (R : List Value → NodeD → Prop) (base : Nat) (w : World) (fs : List NodeD) (e : Ending) (w' : World) : Prop := ∃ v cs, e = .returned v ∧ w'.ownsRow base 78 3 v fs.length cs ∧ CellsG 3 R fs cs ∧ Below base w w'
set_option maxRecDepth 100000 in
set_option maxHeartbeats 1000000 in
theorem CloneN_any (w0 : World) (A : Option Addr) (n c : Nat) (fs : List NodeD) (w : World) (h : Nodes w0 w0.heap.size A n fs) (hb : Below w0.heap.size w0 w) (hn : n ≤ 1048576) :
    Calls Tryz.prog 75 #[.slice A n c] w (RowN (nodeC w0 w0.heap.size) w.heap.size w fs) := by
  obtain ⟨i0, hi, hz0, hz1, hz2⟩ := info_parts infoNodeD
  have hlen := h.1
  obtain ⟨cs, hc, hr⟩ := nodes_reads h
  have Hh := Lib.hid ((hr.below hb).more hb.size)
  have HC := Lib.hid hc
  have Hlen := Lib.hid hlen
  have H1 := Lib.hid (hc.all nodeC_one)
  cases A with
  | none =>
    have hn0 : n = 0 := by
      rcases Nat.eq_zero_or_pos n with h0 | h0
      · exact h0
      · obtain ⟨b, o, e, _⟩ := h.2 h0
        cases e
    have hf0 : Hid (fs.length = 0 ∧ cs = []) := ⟨by rw [hlen, hn0], List.eq_nil_of_length_eq_zero (by rw [hc.len, hlen, hn0])⟩
    clear h hc hr hlen hb
    subst hn0
    have hnil := fun (W : World) => Lib.run_eql_slice_nil (P := Tryz.prog) W 39 78 none 0 c 0 0 Tryz.underlying39
    go_enter Tryz.func75, Tryz.ntmps75
    go_wp2_with fail
    go_ret
    refine ⟨_, cs, rfl, ?_, HC.out, Below.refl _ _⟩
    rw [hf0.out.1, hf0.out.2]
    exact World.ownsRow_nil _ _ _ _
  | some ad =>
    clear h hc hr hlen hb
    have hnil := fun (W : World) => Lib.run_eql_slice_nil (P := Tryz.prog) W 39 78 (some ad) n c 0 0 Tryz.underlying39
    go_enter Tryz.func75, Tryz.ntmps75
    go_wp2_with (at_builtin; refine wpList_append_any _ rfl (.tmp 5) (.tmp 6) 39 rfl w.heap.size 78 i0 _ 3 56 Tryz.underlying39 hi hz0 hz1 hz2 rfl (by decide) _ 0 [] rfl (World.ownsRow_lit _ _ 0 (Nat.le_refl _) (by omega) rfl) w.heap.size (some ad) n c cs rfl (Hh.out.alloc (Nat.le_refl _) _) H1.out ?c1 ?c2 ?c3 ?_)
    case c1 => unfold maxLen; omega
    case c2 => omega
    case c3 => simp
    intro v w1 ho hg _
    have HB := Lib.hid (below_own (w0 := w) (size := 3) (n := 0) (xs := []) (Below.new _ _) (World.ownsRow_lit _ _ 0 (Nat.le_refl _) (by omega) rfl) (Nat.le_refl _) hg)
    have HO := Lib.hid ho
    clear ho hg
    go_wp2_with fail
    go_ret
    exact ⟨_, cs, rfl, by have hx := HO.out; simpa [Hlen.out] using hx, HC.out, HB.out⟩

set_option maxRecDepth 100000 in
set_option maxHeartbeats 4000000 in
theorem DeleteFuncN_any (g : Nat) (lb : Array Value) (p : NodeD → Bool) (v : Value) (fs : List NodeD) (cs : List Value) (w0 w : World) (R : List Value → NodeD → Prop) (hR : ∀ c d, R c d → nodeC w0 w0.heap.size c d) (h : w.ownsRow w0.heap.size 78 3 v fs.length cs) (hc : CellsG 3 R fs cs) (hb : Below w0.heap.size w0 w) (hn : fs.length ≤ 1048576)
    (eg : ∀ args w, (callFunc g args).run Tryz.prog w = .ok (.enter g args) w) (hg : PredNode g lb p fs w0) :
    Calls Tryz.prog 43 #[v, .func (.func g) #[] lb] w (RowN R w0.heap.size w0 (fs.filter fun d => !p d)) := by
  obtain ⟨A, cap, rfl, hcap, hN⟩ := nodes_of_row h rfl (cellsN_iff.2 (hc.mono hR)) hb
  obtain ⟨_, _, e0, _, hcm, hA⟩ := Own.own_slice h
  injection e0 with e1 _ e2
  subst e1 e2
  have HK := Lib.hid (IndexFuncNode_any g lb p A fs.length cap fs w hN hn eg (fun d hd c0 c1 c2 W hW hr => hg d hd c0 c1 c2 W (hb.trans (hW.mono hb.size)) hr))
  have HX := Lib.hid (idxF_cases p fs 0)
  have HO0 := Lib.hid h
  have HC := Lib.hid hc
  have HB0 := Lib.hid hb
  have Hg := Lib.hid hg
  clear h hc hb hg hN
  rcases HX.out with ⟨e1, e2⟩ | ⟨k0, hk0, e1, e2⟩
  · rw [e1] at HK
    rw [e2]
    clear e1 e2 HX
    go_enter Tryz.func43, Tryz.ntmps43
    go_wp2_with fail
    refine HK.out.mono ?_
    rintro e w1 ⟨rfl, hb1⟩
    have HB1 := Lib.hid hb1
    clear hb1
    go_wp2_with fail
    go_ret
    exact ⟨_, cs, rfl, Own.own_later HO0.out HB1.out, HC.out, HB0.out.later HB1.out⟩
  · rw [e1, Nat.zero_add] at HK
    obtain ⟨g0, rfl, hgl, hgb⟩ := hA (by omega)
    have HS := Lib.hid (KeptG.start (p := p) HC.out hk0 e2)
    have HL : Hid (cs.length = fs.length * 3) := HC.out.len
    clear e1 e2 HX hA
    generalize hnn : fs.length = n at *
    have Hlen := Lib.hid hnn
    clear hnn
    have hne1 : ((k0 : Int) == -1) = false := beq_eq_false_iff_ne.2 (by omega)
    go_enter Tryz.func43, Tryz.ntmps43
    go_wp2_with fail
    refine HK.out.mono ?_
    rintro e w1 ⟨rfl, hb1⟩
    have HO1 := Lib.hid (Own.own_later HO0.out hb1)
    have HB1 := Lib.hid (HB0.out.later hb1)
    clear hb1
    go_wp2_with fail
    go_loopw [5, 6] (fun i j wr => ∃ (ii jj : Nat) (ys : List Value), i = .int .i64 ii ∧ j = .int .i64 jj ∧ wr.ownsRow w0.heap.size 78 3 (.slice (some ⟨g0, 0, none⟩) n cap) n ys ∧ Hid (KeptG 3 R p fs cs ii jj ys) ∧ Below w0.heap.size w0 wr) (fun _ j _ => n - (intOf j).toNat)
    case atStart => exact ⟨k0, k0 + 1, cs, rfl, by go_num, HO1.out, HS.out, HB1.out⟩
    case round =>
      obtain ⟨i, j, ys, rfl, rfl, ho, hK, hb⟩ := hrel
      have HO := Lib.hid ho
      have HB := Lib.hid hb
      have hij := hK.out.lt
      have hjn : j ≤ n := by have := hK.out.le; rw [Hlen.out] at this; exact this
      have hyl : ys.length = n * 3 := ho.1
      clear ho hb
      by_cases hlt : j < n
      · have hl : j < fs.length := by rw [Hlen.out]; exact hlt
        obtain ⟨c, _, hRd, hq⟩ := CellsG.at j HC.out hl
        obtain ⟨c0, c1, c2, rfl, hd⟩ := hR _ _ hRd
        have q0 : cs[j * 3]? = some c0 := hq 0 (by omega)
        have q1 : cs[j * 3 + 1]? = some c1 := hq 1 (by omega)
        have q2 : cs[j * 3 + 2]? = some c2 := hq 2 (by omega)
        clear hq
        have x0 := Own.own_cell HO.out (j * 3) c0 (by omega) ((hK.out.cell 0).trans q0)
        have x1 := Own.own_cell HO.out (j * 3 + 1) c1 (by omega) ((hK.out.cell 1).trans q1)
        have x2 := Own.own_cell HO.out (j * 3 + 2) c2 (by omega) ((hK.out.cell 2).trans q2)
        have HP := Lib.hid (fun o => Hg.out (fs.getD j default) (getD_memD fs j hl) c0 c1 c2 (wr.alloc o) (HB.out.later (Below.new _ _)) (hd.later (HB.out.later (Below.new _ _))))
        have HKeep := Lib.hid (fun hp => hK.out.keep (by rw [Hlen.out]; exact HL.out) hl hp hRd rfl)
        clear hRd
        have HSkip := Lib.hid (fun hp => hK.out.skip hl hp)
        clear q0 q1 q2 hl
        generalize fs.getD j default = d at *
        generalize hx : p d = x at *
        clear hx
        obtain ⟨rfl, ⟨A1, n1, p1, rfl, _, _⟩, rfl⟩ := hd
        generalize d.name = nm at *
        generalize d.val = vl at *
        go_wp2_with fail
        refine (HP.out _).mono ?_
        rintro e w2 ⟨rfl, hb2⟩
        have b0 := box_at hb2 0
        have b1 := box_at hb2 1
        have b2 := box_at hb2 2
        simp at b0 b1 b2
        have hO2 := Own.own_later (Own.own_later HO.out (Below.new wr _)) hb2
        have HB2 := Lib.hid (HB.out.later ((Below.new wr _).later hb2))
        have HO2 := Lib.hid hO2
        clear x0 x1 x2
        cases x
        · obtain ⟨cur, hblk⟩ := Own.own_blk hO2
          have t0 := Own.own_cell hO2 (i * 3) _ (by omega) (List.getElem?_eq_getElem (show i * 3 < ys.length by omega))
          have t1 := Own.own_cell hO2 (i * 3 + 1) _ (by omega) (List.getElem?_eq_getElem (show i * 3 + 1 < ys.length by omega))
          have t2 := Own.own_cell hO2 (i * 3 + 2) _ (by omega) (List.getElem?_eq_getElem (show i * 3 + 2 < ys.length by omega))
          have f0 := hblk.frozen (i * 3)
          have f1 := hblk.frozen (i * 3 + 1)
          have f2 := hblk.frozen (i * 3 + 2)
          have s1 := hO2.stored (i * 3) (.string nm)
          have s2 := s1.1.stored (i * 3 + 1) (.slice A1 n1 p1)
          have s3 := s2.1.stored (i * 3 + 2) (.string vl)
          have HO3 := Lib.hid s3.1
          rw [set3_put ys i _ _ _ (by omega)] at HO3
          have HB3 := Lib.hid (below_own (below_own (below_own HB2.out hO2 (Nat.le_refl _) s1.2) s1.1 (Nat.le_refl _) s2.2) s2.1 (Nat.le_refl _) s3.2)
          have HK3 := Lib.hid (HKeep.out rfl)
          clear hb2 hblk s1 s2 s3 hO2
          generalize ys[i * 3] = o0 at *
          generalize ys[i * 3 + 1] = o1 at *
          generalize ys[i * 3 + 2] = o2 at *
          have hin : i < n := by omega
          go_wp2_with fail
          go_roundw
          case rel => exact ⟨i + 1, j + 1, _, by go_num, by go_num, HO3.out, HK3.out, HB3.out⟩
          case measure => simp [intOf]; omega
        · have HK3 := Lib.hid (HSkip.out rfl)
          clear hb2 hO2
          go_wp2_with fail
          go_roundw
          case rel => exact ⟨i, j + 1, ys, rfl, by go_num, HO2.out, HK3.out, HB2.out⟩
          case measure => simp [intOf]; omega
      · obtain rfl : j = n := by omega
        have hin : i < j := hij
        obtain ⟨w2, hcl, ho2, hg2⟩ := run_clear_own (P := Tryz.prog) (i := i) HO.out 39 Tryz.underlying39 _ zeroNode rfl (fun u hu => by have := zero_cells_mem hu; simp [Value.cells] at this; rcases this with rfl | rfl | rfl <;> rfl) hin (cap - i)
        have HO2 := Lib.hid ho2
        have HB2 := Lib.hid (below_own HB.out HO.out (Nat.le_refl _) hg2)
        have HE : Hid ((fs.filter fun d => !p d).length = i ∧ CellsG 3 R (fs.filter fun d => !p d) (ys.take (i * 3))) := by
          have hk := hK.out
          have hl := Hlen.out
          subst hl
          exact hk.done
        have hcn : ¬ cap = i := by omega
        clear ho2 hg2
        go_wp2_with (simp only [hcl])
        go_ret
        exact ⟨_, _, rfl, by rw [HE.out.1]; exact HO2.out, HE.out.2, HB2.out⟩
end Go.Proofs.YtalpafaflgddpaaGreatDoor

namespace Go.Proofs.YtalpafaflgddpaaGreatDoor
open Go.RowKit

set_option maxRecDepth 100000 in
set_option maxHeartbeats 1000000 in
theorem isRowNode_any (b0 b1 b2 b3 c0 c1 c2 : Value) (b : TableD) (d : NodeD) (w : World) (hb : TableR w w.heap.size b0 b1 b2 b3 b) (h : NodeR w w.heap.size c0 c1 c2 d) :
    Calls Tryz.prog 77 #[.agg #[b0, b1, b2, b3], .agg #[c0, c1, c2]] w fun e w' => e = .returned (.bool (isRowB b.glob d)) ∧ Below w.heap.size w w' := by
  obtain ⟨rfl, rfl, ⟨A2, n2, p2, rfl, s2, k2⟩, ⟨A3, n3, p3, rfl, s3, k3⟩⟩ := hb
  obtain ⟨rfl, ⟨A1, n1, cap1, rfl, hs1, hcap1⟩, rfl⟩ := h
  have HR : Hid (isRowB b.glob d = (decide (d.name = b.glob) && (decide (d.subs.length = 2) && decide (d.subs.getD 0 ByteArray.empty = ⟨#[114]⟩)))) := rfl
  have HL1 := Lib.hid hs1.1
  have HC1 := Lib.hid hs1.2
  have HB0 := Lib.hid ((Below.new w (.cells #[.string b.name, .string b.glob, .slice A2 n2 p2, .slice A3 n3 p3] 43)).later (Below.new _ (.cells #[.string d.name, .slice A1 n1 cap1, .string d.val] 78)))
  clear s2 s3 hs1
  generalize isRowB b.glob d = R at *
  generalize b.glob = gl at *
  generalize b.name = bn at *
  generalize d.val = vl at *
  by_cases hnm : d.name = gl
  case neg =>
    have HE : Hid (R = false) := by unfold Hid; rw [HR.out, decide_eq_false hnm]; rfl
    have hbe := str_beq hnm
    generalize d.name = dn at *
    clear hnm HR
    go_enter Tryz.func77, Tryz.ntmps77
    go_wp2_with fail
    go_ret
    exact ⟨ret_bool HE.out.symm, HB0.out⟩
  subst hnm
  by_cases hn2 : n1 = 2
  case neg =>
    have HE : Hid (R = false) := by unfold Hid; rw [HR.out, HL1.out, decide_eq_false hn2]; simp
    have hb3 : ((n1 : Int) == 2) = false := by rw [beq_eq_false_iff_ne]; omega
    have hb4 : (n1 == 2) = false := by rw [beq_eq_false_iff_ne]; omega
    generalize d.name = dn at *
    clear hn2 HR
    go_enter Tryz.func77, Tryz.ntmps77
    go_wp2_with fail
    go_ret
    exact ⟨ret_bool HE.out.symm, HB0.out⟩
  subst hn2
  obtain ⟨sb, so, rfl, hsb, hsc⟩ := HC1.out (by omega)
  have hck := hsc 0 (by omega)
  clear hsc
  rw [Nat.add_zero] at hck
  have HE : Hid (R = decide (d.subs.getD 0 ByteArray.empty = ⟨#[114]⟩)) := by unfold Hid; rw [HR.out, HL1.out]; simp
  clear HR
  generalize d.name = dn at *
  generalize d.subs.getD 0 ByteArray.empty = s0 at *
  by_cases hsub : s0 = ⟨#[114]⟩
  case neg =>
    have HE2 : Hid (R = false) := by unfold Hid; rw [HE.out, decide_eq_false hsub]
    have hbe := str_beq hsub
    have hbe3 := ne_bytes hsub
    clear hsub HE
    go_enter Tryz.func77, Tryz.ntmps77
    go_wp2_with fail
    go_ret
    exact ⟨ret_bool HE2.out.symm, HB0.out⟩
  subst hsub
  have HE2 : Hid (R = true) := by unfold Hid; rw [HE.out]; simp
  clear HE
  go_enter Tryz.func77, Tryz.ntmps77
  go_wp2_with fail
  go_ret
  exact ⟨ret_bool HE2.out.symm, HB0.out⟩
set_option maxRecDepth 100000 in
set_option maxHeartbeats 1000000 in
theorem rowNodes1_any (bk : Nat) (b0 b1 b2 b3 c0 c1 c2 : Value) (b : TableD) (d : NodeD) (w : World) (hk : Blk w bk 43 #[b0, b1, b2, b3]) (hb : TableR w w.heap.size b0 b1 b2 b3 b) (h : NodeR w w.heap.size c0 c1 c2 d) :
    Calls Tryz.prog 76 #[.agg #[c0, c1, c2], .pointer (some ⟨bk, 0, none⟩)] w fun e w' => e = .returned (.bool (!isRowB b.glob d)) ∧ Below w.heap.size w w' := by
  have HK := Lib.hid (fun o => isRowNode_any b0 b1 b2 b3 c0 c1 c2 b d (w.alloc o) (hb.later (Below.new _ _)) (h.later (Below.new _ _)))
  obtain ⟨rfl, rfl, ⟨A2, n2, p2, rfl, s2, k2⟩, ⟨A3, n3, p3, rfl, s3, k3⟩⟩ := hb
  obtain ⟨rfl, ⟨A1, n1, cap1, rfl, hs1, hcap1⟩, rfl⟩ := h
  have x0 := hk.cell 0
  have x1 := hk.cell 1
  have x2 := hk.cell 2
  have x3 := hk.cell 3
  simp at x0 x1 x2 x3
  have hlt := hk.lt
  clear hk s2 s3 hs1
  generalize isRowB b.glob d = R at *
  go_enter Tryz.func76, Tryz.ntmps76
  go_wp2_with fail
  refine (HK.out _).mono ?_
  rintro e w1 ⟨rfl, hb1⟩
  have HB := Lib.hid ((Below.new w _).later hb1)
  clear hb1
  go_wp2_with fail
  go_ret
  exact ⟨rfl, HB.out⟩
theorem rows_not (g : ByteArray) (fs : List NodeD) : (fs.filter fun d => !(!isRowB g d)) = rowsN g fs := by
  unfold rowsN
  congr 1
  funext d
  simp
set_option maxRecDepth 100000 in
set_option maxHeartbeats 1000000 in
theorem rowNodes_any (A : Option Addr) (n c : Nat) (b0 b1 b2 b3 : Value) (fs : List NodeD) (b : TableD) (w : World) (h : Nodes w w.heap.size A n fs) (hb : TableR w w.heap.size b0 b1 b2 b3 b) (hs : smallNs fs) :
    Calls Tryz.prog 42 #[.agg #[.slice A n c], .agg #[b0, b1, b2, b3]] w (NodesPost w (rowsN b.glob fs)) := by
  have hn : n ≤ 1048576 := by rw [← h.1]; exact hs.1
  have HKc := Lib.hid (fun W (hW : Below w.heap.size w W) => CloneN_any w A n c fs W h hW hn)
  have HT := Lib.hid (fun W (hW : Below w.heap.size w W) => hb.later hW)
  have HS := Lib.hid hs.1
  have HF := Lib.hid (rows_not b.glob fs)
  obtain ⟨rfl, rfl, ⟨A2, n2, p2, rfl, s2, k2⟩, ⟨A3, n3, p3, rfl, s3, k3⟩⟩ := hb
  clear s2 s3 h hs hn
  have HB0 := Lib.hid ((Below.new w (.cells #[.slice A n c] 41)).later (Below.new _ (.cells #[.string b.name, .string b.glob, .slice A2 n2 p2, .slice A3 n3 p3] 43)))
  go_enter Tryz.func42, Tryz.ntmps42
  go_wp2_with fail
  refine (HKc.out _ HB0.out).mono ?_
  rintro e w1 ⟨v, cs, rfl, ho, hc, hb1⟩
  have HP : Hid (PredNode 76 #[.pointer (some ⟨w.heap.size + 1, 0, none⟩)] (fun d => !isRowB b.glob d) fs ((w.alloc (.cells #[.slice A n c] 41)).alloc (.cells #[.string b.name, .string b.glob, .slice A2 n2 p2, .slice A3 n3 p3] 43))) :=
    fun d _ c0 c1 c2 W hW hr => rowNodes1_any (w.heap.size + 1) _ _ _ _ c0 c1 c2 b d W (Blk.later (heap_two1 w _ _) hW (by simp)) (HT.out W (HB0.out.later hW)) hr
  have HKd := Lib.hid (DeleteFuncN_any 76 #[.pointer (some ⟨w.heap.size + 1, 0, none⟩)] (fun d => !isRowB b.glob d) v fs cs _ w1 (nodeC w w.heap.size) (fun c d ⟨c0, c1, c2, e, hr⟩ => ⟨c0, c1, c2, e, hr.later HB0.out⟩) ho hc hb1 HS.out (enters_of Tryz.func76 (by kernel_rfl) rfl) HP.out)
  rw [HF.out] at HKd
  have HB1 := Lib.hid hb1
  clear ho hc hb1
  go_wp2_with fail
  refine HKd.out.mono ?_
  rintro e w2 ⟨v2, cs2, rfl, ho2, hc2, hb2⟩
  have HO2 := Lib.hid ho2
  have HC2 := Lib.hid hc2
  have HB2 := Lib.hid hb2
  clear ho2 hc2 hb2
  go_wp2_with fail
  go_ret
  exact ⟨_, cs2, rfl, Own.own_base HO2.out (by simp; omega), cellsN_iff.2 HC2.out, HB0.out.later HB2.out⟩
end Go.Proofs.YtalpafaflgddpaaGreatDoor

namespace Go.Proofs.YtalpafaflgddpaaGreatDoor
open Go.RowKit

set_option maxRecDepth 100000 in
set_option maxHeartbeats 1000000 in
theorem PlanCost1_any (pk : Nat) (c0 c1 c2 kv cv : Value) (pv : ByteArray) (d : NodeD) (w : World) (hk : Blk w pk 49 #[kv, cv, .string pv]) (h : NodeR w w.heap.size c0 c1 c2 d) (h2 : d.subs.length = 2) :
    Calls Tryz.prog 44 #[.agg #[c0, c1, c2], .pointer (some ⟨pk, 0, none⟩)] w fun e w' => e = .returned (.bool (!keyP pv d)) ∧ Below w.heap.size w w' := by
  obtain ⟨rfl, ⟨A1, n1, cap1, rfl, hs1, hcap1⟩, rfl⟩ := h
  obtain rfl : n1 = 2 := by rw [← hs1.1]; exact h2
  obtain ⟨sb, so, rfl, hsb, hsc⟩ := hs1.2 (by omega)
  have hck := hsc 1 (by omega)
  have x2 := hk.cell 2
  simp at x2
  have hlt := hk.lt
  have HP : Hid (keyP pv d = decide (d.subs.getD 1 ByteArray.empty = pv)) := rfl
  clear hsc hs1 h2 hk
  have HB0 := Lib.hid (fun o => Below.new w o)
  generalize keyP pv d = R at *
  generalize d.subs.getD 1 ByteArray.empty = s at *
  generalize d.name = nm at *
  generalize d.val = vl at *
  go_enter Tryz.func44, Tryz.ntmps44
  by_cases he : s = pv
  · have HE : Hid ((!R) = false) := by unfold Hid; rw [HP.out, decide_eq_true he]; rfl
    subst he
    go_wp2_with fail
    go_quiet (fail)
    go_wp2_with fail
    go_ret
    exact ⟨ret_bool HE.out.symm, below_drewN (HB0.out _) _⟩
  · have HE : Hid ((!R) = true) := by unfold Hid; rw [HP.out, decide_eq_false he]; rfl
    have hbe := str_beq he
    have hbn := str_bne he
    clear he
    go_wp2_with fail
    go_quiet (fail)
    go_wp2_with fail
    go_ret
    exact ⟨ret_bool HE.out.symm, below_drewN (HB0.out _) _⟩

theorem starts3 (a b c : ByteArray) (ss : List ByteArray) (h : ss.length = 4) : startsB [a, b, c] ss = (decide (ss.getD 0 ByteArray.empty = a) && (decide (ss.getD 1 ByteArray.empty = b) && decide (ss.getD 2 ByteArray.empty = c))) := by
  match ss, h with
  | [s0, s1, s2, s3], _ => simp [startsB, eq_comm]
set_option maxRecDepth 100000 in
set_option maxHeartbeats 4000000 in
theorem keysBy_any (A : Option Addr) (n c : Nat) (b0 b1 b2 b3 : Value) (fs : List NodeD) (b : TableD) (col val : ByteArray) (w : World) (h : Nodes w w.heap.size A n fs) (hb : TableR w w.heap.size b0 b1 b2 b3 b) (hs : smallNs fs) :
    Calls Tryz.prog 46 #[.agg #[.slice A n c], .agg #[b0, b1, b2, b3], .string col, .string val] w fun e w' => ∃ v, e = .returned v ∧ Own.SubO w' w.heap.size v (keysN b.glob col val fs) ∧ Below w.heap.size w w' := by
  obtain ⟨i0, hi, hz0, hz1, hz2⟩ := info_parts infoS
  obtain ⟨rfl, rfl, ⟨A2, n2, p2, rfl, s2, k2⟩, ⟨A3, n3, p3, rfl, s3, k3⟩⟩ := hb
  have Hh := Lib.hid h
  have Hlen := Lib.hid h.1
  have hn : n ≤ 1048576 := by rw [← h.1]; exact hs.1
  clear h hs s2 s3
  have HP : Hid (∀ d, isKeyB b.glob col val d = (decide (d.name = b.glob) && (decide (d.subs.length = 4) && (decide (d.subs.getD 0 ByteArray.empty = ⟨#[105]⟩) && (decide (d.subs.getD 1 ByteArray.empty = col) && decide (d.subs.getD 2 ByteArray.empty = val)))))) := fun _ => rfl
  have HRN : Hid (keysN b.glob col val fs = (fs.filter (isKeyB b.glob col val)).map keyOfN) := rfl
  generalize keysN b.glob col val fs = OUT at *
  generalize isKeyB b.glob col val = P at *
  generalize b.glob = gl at *
  generalize b.name = nm at *
  go_enter Tryz.func46, Tryz.ntmps46
  go_wp2_with fail
  go_loopw [9, 20] (fun v i wr => ∃ (k : Nat), k ≤ n ∧ i = .int .i64 k ∧ wr.ownsRow (w.heap.size + 1 + 1) 9 1 v (((fs.take k).filter P).map keyOfN).length ((((fs.take k).filter P).map keyOfN).map Value.string) ∧ Below (w.heap.size + 1 + 1) ((w.alloc (.cells #[.slice A n c] 41)).alloc (.cells #[.string nm, .string gl, .slice A2 n2 p2, .slice A3 n3 p3] 43)) wr ∧ Blk wr (w.heap.size + 1 + 1 + 1) 9 #[.string ⟨#[105]⟩, .string col, .string val] ∧ v.ownBlock ≠ some (w.heap.size + 1 + 1 + 1)) (fun _ i _ => n - (intOf i).toNat)
  case atStart =>
    refine ⟨0, Nat.zero_le _, rfl, ?_, ((Below.refl _ _).alloc (by first | exact Nat.le_refl _ | (simp; done) | (simp; omega)) _).alloc (by first | exact Nat.le_refl _ | (simp; done) | (simp; omega)) _, heap_last (by simp), by simp [Value.ownBlock]⟩
    exact Own.own_later (by simpa using World.ownsRow_lit (e := 9) (size := 1) ((w.alloc (.cells #[.slice A n c] 41)).alloc (.cells #[.string nm, .string gl, .slice A2 n2 p2, .slice A3 n3 p3] 43)) #[] 0 (Nat.le_refl _) (by omega) rfl) (Below.new _ _)
  case round =>
    obtain ⟨k, hk, rfl, hown, hb, hu, hne⟩ := hrel
    have px := (Blk.later (heap_two0 w _ _) hb (by omega)).cell
    have py := (Blk.later (heap_two1 w _ _) hb (by omega)).cell
    have hz3 : w.heap.size + 1 < wr.heap.size := by have := hu.lt; omega
    have HBk := Lib.hid hb
    have HU := Lib.hid hu
    have HBw := Lib.hid (((Below.new w _).later (Below.new _ _)).trans (hb.mono (by omega)))
    have hml := filter_len P fs k
    have hml2 : (((fs.take k).filter P).map keyOfN).length ≤ k := by rw [List.length_map]; exact hml
    have HO := Lib.hid hown
    clear hb hown hml hu
    by_cases hlt : k < n
    · obtain ⟨bb, o, rfl, hbB, hc'⟩ := (Hh.out.later HBw.out).2 (by omega)
      obtain ⟨d0, d1, d2, j0, j1, j2, hrl⟩ := hc' k hlt
      clear hc'
      have hl1 : k < fs.length := by rw [Hlen.out]; exact hlt
      have HTS := Lib.hid (filter_snoc P fs k hl1)
      have HPd := Lib.hid (HP.out (fs.getD k default))
      have HK : Hid (keyOfN (fs.getD k default) = (fs.getD k default).subs.getD 3 ByteArray.empty) := rfl
      clear hl1
      generalize fs.getD k default = d at *
      obtain ⟨e0, ⟨A1, n1, cap1, e1, hs1, hcap1⟩, e2⟩ := hrl
      subst e0 e1 e2
      have HL1 := Lib.hid hs1.1
      have HS1 := Lib.hid hs1
      clear hs1
      generalize hY : ((fs.take k).filter P).map keyOfN = ys at *
      have HY := Lib.hid hY
      clear hY
      by_cases hnm : d.name = gl
      case neg =>
        have HE : Hid (((fs.take (k + 1)).filter P).map keyOfN = ys) := by unfold Hid; rw [HTS.out, if_neg (by rw [HPd.out]; rw [decide_eq_false hnm]; simp), HY.out]
        have hbe := str_beq hnm
        clear hnm
        go_wp2_with fail
        go_roundw
        case rel =>
          refine ⟨k + 1, by omega, by go_num, ?_, HBk.out.alloc (by omega) _, HU.out.alloc _, hne⟩
          rw [HE.out]; exact Own.own_later HO.out (Below.new _ _)
        case measure => simp [intOf]; omega
      subst hnm
      by_cases hn4 : n1 = 4
      case neg =>
        have HE : Hid (((fs.take (k + 1)).filter P).map keyOfN = ys) := by unfold Hid; rw [HTS.out, if_neg (by rw [HPd.out]; rw [HL1.out, decide_eq_false hn4]; simp), HY.out]
        have hb3 : ((n1 : Int) == 4) = false := by rw [beq_eq_false_iff_ne]; omega
        have hb4 : (n1 == 4) = false := by rw [beq_eq_false_iff_ne]; omega
        clear hn4
        go_wp2_with fail
        go_roundw
        case rel =>
          refine ⟨k + 1, by omega, by go_num, ?_, HBk.out.alloc (by omega) _, HU.out.alloc _, hne⟩
          rw [HE.out]; exact Own.own_later HO.out (Below.new _ _)
        case measure => simp [intOf]; omega
      subst hn4
      have HKb := Lib.hid (fun o => begins_any A1 (some ⟨w.heap.size + 1 + 1 + 1, 0, none⟩) 4 cap1 3 3 d.subs [⟨#[105]⟩, col, val] (wr.alloc o) (HS1.out.later (Below.new _ _)) (Blk.strs (ss := [⟨#[105]⟩, col, val]) (HU.out.alloc o)) (by omega) hcap1)
      have HX := Lib.hid (starts3 ⟨#[105]⟩ col val d.subs HL1.out)
      have HPx : Hid (P d = startsB [⟨#[105]⟩, col, val] d.subs) := by unfold Hid; rw [HPd.out, HX.out, HL1.out]; simp
      obtain ⟨sb, so, e1, hsb, hsc⟩ := HS1.out.2 (by omega)
      subst e1
      have h3 := hsc 3 (by omega)
      clear hsc HX HPd
      generalize startsB [⟨#[105]⟩, col, val] d.subs = x at *
      generalize d.subs.getD 3 ByteArray.empty = t3 at *
      go_wp2_with fail
      refine (HKb.out _).mono ?_
      rintro e w1 ⟨rfl, q, rfl⟩
      cases x
      · have HE : Hid (((fs.take (k + 1)).filter P).map keyOfN = ys) := by unfold Hid; rw [HTS.out, if_neg (by rw [HPx.out]; simp), HY.out]
        go_wp2_with fail
        go_roundw
        case rel =>
          refine ⟨k + 1, by omega, by go_num, ?_, below_drewN (HBk.out.alloc (by omega) _) _, HU.out.alloc _, hne⟩
          rw [HE.out]; exact Own.own_later HO.out (below_drewN (Below.new _ _) q)
        case measure => simp [intOf]; omega
      have HE : Hid (((fs.take (k + 1)).filter P).map keyOfN = ys ++ [t3]) := by unfold Hid; rw [HTS.out, if_pos HPx.out, List.map_append, HY.out, List.map_singleton, HK.out]
      have hrow : Hid (∀ o o', (((wr.alloc o).drewN q).alloc o').ownsRow (w.heap.size + 1 + 1) 9 1 u9 ys.length (ys.map Value.string)) := fun o o' => Own.own_later (w := (wr.alloc o).drewN q) (Own.own_later HO.out (below_drewN (Below.new _ _) q)) (Below.new _ _)
      go_wp2_with (at_builtin; refine wpList_append_own_at _ rfl (.tmp 41) (.tmp 46) 25 rfl (w.heap.size + 1 + 1) 9 i0 _ 1 16 Tryz.underlying25 hi hz0 hz1 hz2 rfl (by decide) _ ys.length _ rfl (hrow.out _ _) ⟨_, 0, none⟩ 1 1 [.string t3] rfl rfl ?c1 ?c2 ?c3 ?c4 ?c5 ?_)
      all_goals try (first | exact cells_atN _ #[.string t3] _ _ (by simp) | (simp [Value.oneCell']; done) | (unfold maxLen; omega) | omega | (show w.heap.size + 1 + 1 ≤ ((wr.alloc _).alloc _).heap.size; have hx := HU.out.lt; simp; omega))
      intro v1 w2 hown1 hg1 _ hob
      have HO3 : Hid (w2.ownsRow (w.heap.size + 1 + 1) 9 1 v1 (((fs.take (k + 1)).filter P).map keyOfN).length ((((fs.take (k + 1)).filter P).map keyOfN).map Value.string)) := by
        unfold Hid
        rw [HE.out, List.length_append, List.length_singleton, List.map_append]
        exact hown1
      have HB3 := Lib.hid (((below_drewN (HBk.out.alloc (by omega) _) q).alloc (by first | omega | (simp; omega)) _).grown hg1 (by first | omega | (simp; omega)) (fun g hg' => ((hrow.out (.cells #[] 0) (.cells #[] 0)).lt g hg').1))
      have HU3 := Lib.hid (Blk.grown ((show Blk ((wr.alloc _).drewN q) _ _ _ from HU.out.alloc _).alloc _) hg1 (fun e => hne e.symm))
      have hne1 : v1.ownBlock ≠ some (w.heap.size + 1 + 1 + 1) := by
        rcases hob with hob | hob
        · rw [hob]; exact hne
        · have hx := HU.out.lt
          rw [hob]
          intro e
          injection e with e
          simp at e
          omega
      clear hown1 hg1 hob
      go_wp2_with fail
      go_roundw
      case rel => exact ⟨k + 1, by omega, by go_num, HO3.out, HB3.out, HU3.out, hne1⟩
      case measure => simp [intOf]; omega
    · obtain rfl : k = n := by omega
      have HE : Hid (((fs.take k).filter P).map keyOfN = OUT) := by unfold Hid; rw [HRN.out, List.take_of_length_le (by rw [Hlen.out]; omega)]
      go_wp2_with fail
      go_ret
      have h1 := HO.out
      rw [HE.out] at h1
      exact ⟨_, rfl, Own.own_base h1 (by omega), HBw.out⟩
end Go.Proofs.YtalpafaflgddpaaGreatDoor

namespace Go.Proofs.YtalpafaflgddpaaGreatDoor
open Go.RowKit

theorem stepB_trans {a b c : NodeD} (h1 : stepB a b = true) (h2 : stepB b c = true) : stepB a c = true := by
  unfold stepB at *
  rw [aheadB_eq] at *
  exact lessB_trans _ _ _ _ _ _ h1 h2
theorem stepB_irr {a b : NodeD} (hn : a.name = b.name) (hs : a.subs = b.subs) : stepB a b = false := by
  unfold stepB
  rw [aheadB_eq, hn, hs, ← cmpLoc_lt, (cmpLoc_zero _ _ _ _).2 ⟨rfl, rfl⟩]
  rfl
theorem tree_step {l : List NodeD} (h : treeB l = true) (k : Nat) (hk : k + 1 < l.length) : stepB (l.getD k default) (l.getD (k + 1) default) = true := by
  unfold treeB at h
  rw [Bool.and_eq_true] at h
  have h2 := (allFrom_all (treeAt l) l.length 0).1 h.2 (k + 1) (by omega) (by omega)
  unfold treeAt at h2
  simp only [Bool.and_eq_true, Bool.or_eq_true, decide_eq_true_eq] at h2
  rcases h2.2 with h3 | h3
  · omega
  · simpa using h3
theorem tree_far {l : List NodeD} (h : treeB l = true) : ∀ (m i : Nat), i + m + 1 < l.length → stepB (l.getD i default) (l.getD (i + m + 1) default) = true
  | 0, i, hj => tree_step h i hj
  | m + 1, i, hj => stepB_trans (tree_far h m i (by omega)) (tree_step h (i + m + 1) hj)
theorem tree_pw {l : List NodeD} (h : treeB l = true) : l.Pairwise fun a b => stepB a b = true := by
  rw [List.pairwise_iff_getElem]
  intro i j hi hj hij
  have := tree_far h (j - i - 1) i (by omega)
  rw [show i + (j - i - 1) + 1 = j by omega] at this
  rw [List.getD_eq_getElem?_getD, List.getD_eq_getElem?_getD, List.getElem?_eq_getElem hi, List.getElem?_eq_getElem hj] at this
  exact this
theorem two_subs {l : List ByteArray} (h : l.length = 2) : l = [l.getD 0 ByteArray.empty, l.getD 1 ByteArray.empty] := by
  match l, h with
  | [a, b], _ => rfl
theorem rows_key_le {g key : ByteArray} {l : List NodeD} (h : treeB l = true) : ((rowsN g l).filter (keyP key)).length ≤ 1 := by
  have hp : ((rowsN g l).filter (keyP key)).Pairwise (fun a b => stepB a b = true) := ((tree_pw h).filter _).filter _
  have hm : ∀ d ∈ (rowsN g l).filter (keyP key), d.name = g ∧ d.subs = [⟨#[114]⟩, key] := by
    intro d hd
    rw [List.mem_filter] at hd
    obtain ⟨hd, hk⟩ := hd
    unfold rowsN at hd
    rw [List.mem_filter] at hd
    have h1 := hd.2
    unfold isRowB at h1
    unfold keyP at hk
    simp only [Bool.and_eq_true, decide_eq_true_eq] at h1 hk
    obtain ⟨e1, e2, e3⟩ := h1
    exact ⟨e1, by rw [two_subs e2, e3, hk]⟩
  generalize (rowsN g l).filter (keyP key) = r at *
  match r, hp, hm with
  | [], _, _ => simp
  | [_], _, _ => simp
  | a :: b :: r, hp, hm =>
    exfalso
    have h1 := (List.pairwise_cons.1 hp).1 b (by simp)
    have ha := hm a (by simp)
    have hb := hm b (by simp)
    rw [stepB_irr (ha.1.trans hb.1.symm) (ha.2.trans hb.2.symm)] at h1
    cases h1
theorem at_key {g key : ByteArray} {l : List NodeD} (h : treeB l = true) : ((((rowsN g l).filter (keyP key)).length : Nat) : Int) = if 0 ≤ atI (rowsN g l) key then 1 else 0 := by
  have hle := rows_key_le (g := g) (key := key) h
  have hx := idxF_any (keyP key) (rowsN g l) 0
  rw [show idxF (keyP key) (rowsN g l) 0 = atI (rowsN g l) key from rfl] at hx
  by_cases h0 : 0 ≤ atI (rowsN g l) key
  · rw [if_pos h0]
    rw [decide_eq_true h0] at hx
    obtain ⟨d, hd, hk⟩ := List.any_eq_true.1 hx.symm
    have := List.length_pos_of_mem (List.mem_filter.2 ⟨hd, hk⟩)
    omega
  · rw [if_neg h0]
    rw [decide_eq_false h0] at hx
    have : (rowsN g l).filter (keyP key) = [] := by
      rw [List.filter_eq_nil_iff]
      intro d hd hk
      have := List.any_eq_true.2 ⟨d, hd, hk⟩
      rw [← hx] at this
      cases this
    rw [this]
    rfl
end Go.Proofs.YtalpafaflgddpaaGreatDoor

namespace Go.Proofs.YtalpafaflgddpaaGreatDoor
open Go.RowKit

def costB (fs : List NodeD) (b : TableD) (q : QueryD) (p : PlanD) : Int × Int :=
  if (treeB fs && fitsP b q p) = true then (if p.kind = 1 then (if 0 ≤ atI (rowsN b.glob fs) p.val then 1 else 0) else if p.kind = 2 then ((keysN b.glob p.col p.val fs).length : Int) else ((rowsN b.glob fs).length : Int), 0) else (0, 1)
theorem rows_two {g : ByteArray} {fs : List NodeD} : ∀ d ∈ rowsN g fs, d.subs.length = 2 := by
  intro d hd
  unfold rowsN at hd
  rw [List.mem_filter] at hd
  have h1 := hd.2
  unfold isRowB at h1
  simp only [Bool.and_eq_true, decide_eq_true_eq] at h1
  exact h1.2.1
theorem rows_len {g : ByteArray} {fs : List NodeD} (h : smallNs fs) : (rowsN g fs).length ≤ 1048576 := Nat.le_trans (List.length_filter_le _ _) h.1
theorem keys_len {g c v : ByteArray} {fs : List NodeD} (h : smallNs fs) : (keysN g c v fs).length ≤ 1048576 := by
  unfold keysN
  rw [List.length_map]
  exact Nat.le_trans (List.length_filter_le _ _) h.1
set_option maxRecDepth 100000 in
set_option maxHeartbeats 4000000 in
theorem specPlanCost_any (A : Option Addr) (n c : Nat) (b0 b1 b2 b3 c0 c1 c2 c3 c4 c5 e0 e1 e2 : Value) (fs : List NodeD) (b : TableD) (d : QueryD) (p : PlanD) (w : World) (ht : Nodes w w.heap.size A n fs) (hb : TableR w w.heap.size b0 b1 b2 b3 b) (h : QueryR w w.heap.size c0 c1 c2 c3 c4 c5 d) (hp : PlanR w w.heap.size e0 e1 e2 p) (hts : smallNs fs) (hbs : b.small) (hs : d.small) :
    Calls Tryz.prog 10 #[.agg #[.slice A n c], .agg #[b0, b1, b2, b3], .agg #[c0, c1, c2, c3, c4, c5], .agg #[e0, e1, e2]] w fun e w' => e = .returned (.tuple #[.int .i64 (costB fs b d p).1, .int .i64 (costB fs b d p).2]) ∧ Below w.heap.size w w' := by
  have HK1 := Lib.hid (fun W (hW : Below w.heap.size w W) => specTreeOk_any A n c fs W (ht.later hW) hts)
  have HK2 := Lib.hid (fun W (hW : Below w.heap.size w W) => specPlanFits_any b0 b1 b2 b3 c0 c1 c2 c3 c4 c5 e0 e1 e2 b d p W (hb.later hW) (h.later hW) (hp.later hW) hbs hs)
  have HK3 := Lib.hid (fun W (hW : Below w.heap.size w W) => l29Nodes_any A n c b0 b1 b2 b3 fs b W (ht.later hW) (hb.later hW) hts)
  have HK4 := Lib.hid (fun W (hW : Below w.heap.size w W) => l29Keys_any A n c b0 b1 b2 b3 fs b p.col p.val W (ht.later hW) (hb.later hW) hts)
  have HL := Lib.hid (rows_len (g := b.glob) hts)
  have H2 := Lib.hid (rows_two (g := b.glob) (fs := fs))
  generalize hxt : treeB fs = xt at *
  have HR : Hid (costB fs b d p = if (xt && fitsP b d p) = true then (if p.kind = 1 then (if 0 ≤ atI (rowsN b.glob fs) p.val then 1 else 0) else if p.kind = 2 then ((keysN b.glob p.col p.val fs).length : Int) else ((rowsN b.glob fs).length : Int), 0) else (0, 1)) := by
    unfold Hid; rw [← hxt]; rfl
  clear hxt
  obtain ⟨rfl, rfl, ⟨A2, n2, p2, rfl, s2, k2⟩, ⟨A3, n3, p3, rfl, s3, k3⟩⟩ := hb
  obtain ⟨rfl, ⟨B1, m1, q1, rfl, t1, l1⟩, ⟨B2, m2, q2, rfl, t2, l2⟩, rfl, rfl, rfl⟩ := h
  obtain ⟨rfl, rfl, rfl⟩ := hp
  clear s2 s3 t1 t2 ht hts hbs hs
  generalize costB fs b d p = R at *
  generalize fitsP b d p = xf at *
  generalize b.name = nm at *
  generalize b.glob = gl at *
  generalize d.table = tb at *
  generalize d.order = od at *
  generalize d.desc = ds at *
  generalize d.limit = lm at *
  generalize p.kind = kd at *
  generalize p.col = pc at *
  generalize p.val = pv at *
  have HB0 := Lib.hid (below_new4 w (.cells #[.slice A n c] 41) (.cells #[.string nm, .string gl, .slice A2 n2 p2, .slice A3 n3 p3] 43) (.cells #[.string tb, .slice B1 m1 q1, .slice B2 m2 q2, .string od, .bool ds, .int .i64 lm] 47) (.cells #[.int .i64 kd, .string pc, .string pv] 49))
  have HX0 := Lib.hid (heap_0of4 w (.cells #[.slice A n c] 41) (.cells #[.string nm, .string gl, .slice A2 n2 p2, .slice A3 n3 p3] 43) (.cells #[.string tb, .slice B1 m1 q1, .slice B2 m2 q2, .string od, .bool ds, .int .i64 lm] 47) (.cells #[.int .i64 kd, .string pc, .string pv] 49))
  have HX1 := Lib.hid (heap_1of4 w (.cells #[.slice A n c] 41) (.cells #[.string nm, .string gl, .slice A2 n2 p2, .slice A3 n3 p3] 43) (.cells #[.string tb, .slice B1 m1 q1, .slice B2 m2 q2, .string od, .bool ds, .int .i64 lm] 47) (.cells #[.int .i64 kd, .string pc, .string pv] 49))
  have HX2 := Lib.hid (heap_2of4 w (.cells #[.slice A n c] 41) (.cells #[.string nm, .string gl, .slice A2 n2 p2, .slice A3 n3 p3] 43) (.cells #[.string tb, .slice B1 m1 q1, .slice B2 m2 q2, .string od, .bool ds, .int .i64 lm] 47) (.cells #[.int .i64 kd, .string pc, .string pv] 49))
  have HX3 := Lib.hid (heap_3of4 w (.cells #[.slice A n c] 41) (.cells #[.string nm, .string gl, .slice A2 n2 p2, .slice A3 n3 p3] 43) (.cells #[.string tb, .slice B1 m1 q1, .slice B2 m2 q2, .string od, .bool ds, .int .i64 lm] 47) (.cells #[.int .i64 kd, .string pc, .string pv] 49))
  go_enter Tryz.func10, Tryz.ntmps10
  go_wp2_with fail
  refine (HK1.out _ HB0.out).mono ?_
  rintro e w1 ⟨rfl, hb1⟩
  have HB1 := Lib.hid (HB0.out.later hb1)
  have HY0 := Lib.hid (Blk.later HX0.out hb1 (by first | (simp; done) | (simp; omega)))
  have HY1 := Lib.hid (Blk.later HX1.out hb1 (by first | (simp; done) | (simp; omega)))
  have HY2 := Lib.hid (Blk.later HX2.out hb1 (by first | (simp; done) | (simp; omega)))
  have HY3 := Lib.hid (Blk.later HX3.out hb1 (by first | (simp; done) | (simp; omega)))
  clear hb1 HX0 HX1 HX2 HX3
  cases xt
  · have HE : Hid (R = (0, 1)) := by unfold Hid; rw [HR.out]; rfl
    go_wp2_with fail
    refine bodyPost_ret (v := .tuple #[.int .i64 _, .int .i64 _]) (by simp [results, Tryz.results10, go_sem]; try exact ⟨rfl, rfl⟩) rfl ?_
    exact ⟨by rw [HE.out], HB1.out⟩
  have p0 := HY0.out.cell
  have p1 := HY1.out.cell
  have p2' := HY2.out.cell
  have p3' := HY3.out.cell
  have z3 := HY3.out.lt
  go_wp2_with fail
  refine (HK2.out _ HB1.out).mono ?_
  rintro e w2 ⟨rfl, hb2⟩
  have HB2 := Lib.hid (HB1.out.later hb2)
  have HZ0 := Lib.hid (HY0.out.later hb2 HY0.out.lt)
  have HZ1 := Lib.hid (HY1.out.later hb2 HY1.out.lt)
  have HZ3 := Lib.hid (HY3.out.later hb2 HY3.out.lt)
  clear hb2 p0 p1 p2' p3' z3 HY0 HY1 HY2 HY3
  cases xf
  · have HE : Hid (R = (0, 1)) := by unfold Hid; rw [HR.out]; rfl
    go_wp2_with fail
    refine bodyPost_ret (v := .tuple #[.int .i64 _, .int .i64 _]) (by simp [results, Tryz.results10, go_sem]; try exact ⟨rfl, rfl⟩) rfl ?_
    exact ⟨by rw [HE.out], HB2.out⟩
  have p0 := HZ0.out.cell
  have p1 := HZ1.out.cell
  have p3' := HZ3.out.cell
  have z3 := HZ3.out.lt
  have hRS : R = (if kd = 1 then (if 0 ≤ atI (rowsN gl fs) pv then 1 else 0) else if kd = 2 then ((keysN gl pc pv fs).length : Int) else ((rowsN gl fs).length : Int), 0) := by rw [HR.out]; rfl
  have HRS := Lib.hid hRS
  clear hRS HR
  generalize hk3 : rowsN gl fs = rs at *
  clear hk3
  by_cases h1 : kd = 1
  · have HE : Hid (R = (if 0 ≤ atI rs pv then 1 else 0, 0)) := by unfold Hid; rw [HRS.out, if_pos h1]
    subst h1
    go_wp2_with fail
    have y0 := p0 0
    have y10 := p1 0
    have y11 := p1 1
    have y12 := p1 2
    have y13 := p1 3
    have y3 := p3' 2
    simp at y0 y10 y11 y12 y13 y3
    clear HRS p0 p1 p3'
    go_region_held3 (fun w' => w'.cell? ⟨w.heap.size, 0, none⟩ = some (.slice A n c) ∧ w'.cell? ⟨w.heap.size + 1, 0, none⟩ = some (.string nm) ∧ w'.cell? ⟨w.heap.size + 1, 1, none⟩ = some (.string gl) ∧ w'.cell? ⟨w.heap.size + 1, 2, none⟩ = some (.slice A2 n2 p2) ∧ w'.cell? ⟨w.heap.size + 1, 3, none⟩ = some (.slice A3 n3 p3) ∧ w'.cell? ⟨w.heap.size + 1 + 1 + 1, 2, none⟩ = some (.string pv))
      (first | exact ⟨y0, y10, y11, y12, y13, y3⟩ | exact ⟨cell_later hb4 y0, cell_later hb4 y10, cell_later hb4 y11, cell_later hb4 y12, cell_later hb4 y13, cell_later hb4 y3⟩ | exact ⟨cell_later hb3 y0, cell_later hb3 y10, cell_later hb3 y11, cell_later hb3 y12, cell_later hb3 y13, cell_later hb3 y3⟩)
      (first
        | (go_at_call 35; refine (HK3.out _ (by exact HB2.out.drew)).mono ?_; rintro e w3 ⟨v, cs, rfl, ho, hc, hb3'⟩; obtain ⟨A4, cap4, rfl, _, hN4⟩ := nodes_of_row ho rfl hc hb3'; have hb3 := undrew hb3'; have HN4 := Lib.hid hN4; clear hb3' ho hc hN4)
        | (go_at_call 34; refine (l29At_any A4 rs.length cap4 rs pv _ (by exact HN4.out) HL.out H2.out).mono ?_; rintro e w4 ⟨rfl, hb4'⟩; have hb4 := hb3.later hb4'; clear hb4'))
    have HB4 := Lib.hid (HB2.out.later hb4)
    clear hb3 hb4
    by_cases hi : 0 ≤ atI rs pv
    · have HE2 : Hid (R = (1, 0)) := by unfold Hid; rw [HE.out, if_pos hi]
      go_wp2_with fail
      refine bodyPost_ret (v := .tuple #[.int .i64 _, .int .i64 _]) (by simp [results, Tryz.results10, go_sem]; try exact ⟨rfl, rfl⟩) rfl ?_
      exact ⟨by rw [HE2.out], HB4.out⟩
    · have HE2 : Hid (R = (0, 0)) := by unfold Hid; rw [HE.out, if_neg hi]
      go_wp2_with fail
      refine bodyPost_ret (v := .tuple #[.int .i64 _, .int .i64 _]) (by simp [results, Tryz.results10, go_sem]; try exact ⟨rfl, rfl⟩) rfl ?_
      exact ⟨by rw [HE2.out], HB4.out⟩
  by_cases h2 : kd = 2
  · have HE : Hid (R = (((keysN gl pc pv fs).length : Int), 0)) := by unfold Hid; rw [HRS.out, if_neg h1, if_pos h2]
    subst h2
    clear HRS h1
    generalize keysN gl pc pv fs = ks at *
    go_wp2_with fail
    refine (HK4.out _ HB2.out).mono ?_
    rintro e w4 ⟨v4, rfl, ho4, hb4⟩
    obtain ⟨A4, cap4, rfl, _⟩ := ho4.strs
    have HB4 := Lib.hid (HB2.out.later hb4)
    clear ho4 hb4
    go_wp2_with fail
    refine bodyPost_ret (v := .tuple #[.int .i64 _, .int .i64 _]) (by simp [results, Tryz.results10, go_sem]; try exact ⟨rfl, rfl⟩) rfl ?_
    exact ⟨by rw [HE.out], HB4.out⟩
  · have HE : Hid (R = ((rs.length : Int), 0)) := by unfold Hid; rw [HRS.out, if_neg h1, if_neg h2]
    have i1 := int_beq h1
    have i2 := int_beq h2
    clear HRS h1 h2
    go_wp2_with fail
    refine (HK3.out _ HB2.out).mono ?_
    rintro e w4 ⟨v4, cs4, rfl, ho4, _, hb4⟩
    obtain ⟨A4, cap4, rfl, _⟩ := Own.own_slice ho4
    have HB4 := Lib.hid (HB2.out.later hb4)
    clear ho4 hb4
    go_wp2_with fail
    refine bodyPost_ret (v := .tuple #[.int .i64 _, .int .i64 _]) (by simp [results, Tryz.results10, go_sem]; try exact ⟨rfl, rfl⟩) rfl ?_
    exact ⟨by rw [HE.out], HB4.out⟩
end Go.Proofs.YtalpafaflgddpaaGreatDoor

namespace Go.Proofs.YtalpafaflgddpaaGreatDoor
open Go.RowKit

set_option maxRecDepth 100000 in
set_option maxHeartbeats 4000000 in
theorem PlanCost_any (A : Option Addr) (n c : Nat) (b0 b1 b2 b3 c0 c1 c2 c3 c4 c5 e0 e1 e2 : Value) (fs : List NodeD) (b : TableD) (d : QueryD) (p : PlanD) (w : World) (htab : tabT w) (ht : Nodes w w.heap.size A n fs) (hb : TableR w w.heap.size b0 b1 b2 b3 b) (h : QueryR w w.heap.size c0 c1 c2 c3 c4 c5 d) (hp : PlanR w w.heap.size e0 e1 e2 p) (hts : smallNs fs) (hbs : b.small) (hs : d.small) :
    Calls Tryz.prog 15 #[.agg #[.slice A n c], .agg #[b0, b1, b2, b3], .agg #[c0, c1, c2, c3, c4, c5], .agg #[e0, e1, e2]] w fun e w' => e = .returned (.tuple #[.int .i64 (costB fs b d p).1, .int .i64 (costB fs b d p).2]) ∧ Below w.heap.size w w' := by
  have HK1 := Lib.hid (fun W (hW : Below w.heap.size w W) => TreeOk_any A n c fs W (ht.later hW) (tab_later htab hW) hts)
  have HK2 := Lib.hid (fun W (hW : Below w.heap.size w W) => PlanFits_any b0 b1 b2 b3 c0 c1 c2 c3 c4 c5 e0 e1 e2 b d p W (hb.later hW) (h.later hW) (hp.later hW) hbs hs)
  have HK3 := Lib.hid (fun W (hW : Below w.heap.size w W) => rowNodes_any A n c b0 b1 b2 b3 fs b W (ht.later hW) (hb.later hW) hts)
  have HK4 := Lib.hid (fun W (hW : Below w.heap.size w W) => keysBy_any A n c b0 b1 b2 b3 fs b p.col p.val W (ht.later hW) (hb.later hW) hts)
  have HL := Lib.hid (rows_len (g := b.glob) hts)
  have HL2 := Lib.hid (keys_len (g := b.glob) (c := p.col) (v := p.val) hts)
  have HKey := Lib.hid (fun h : treeB fs = true => at_key (g := b.glob) (key := p.val) h)
  have H2 := Lib.hid (rows_two (g := b.glob) (fs := fs))
  generalize hxt : treeB fs = xt at *
  have HR : Hid (costB fs b d p = if (xt && fitsP b d p) = true then (if p.kind = 1 then (if 0 ≤ atI (rowsN b.glob fs) p.val then 1 else 0) else if p.kind = 2 then ((keysN b.glob p.col p.val fs).length : Int) else ((rowsN b.glob fs).length : Int), 0) else (0, 1)) := by
    unfold Hid; rw [← hxt]; rfl
  clear hxt htab
  obtain ⟨rfl, rfl, ⟨A2, n2, p2, rfl, s2, k2⟩, ⟨A3, n3, p3, rfl, s3, k3⟩⟩ := hb
  obtain ⟨rfl, ⟨B1, m1, q1, rfl, t1, l1⟩, ⟨B2, m2, q2, rfl, t2, l2⟩, rfl, rfl, rfl⟩ := h
  obtain ⟨rfl, rfl, rfl⟩ := hp
  clear s2 s3 t1 t2 ht hts hbs hs
  generalize costB fs b d p = R at *
  generalize fitsP b d p = xf at *
  generalize b.name = nm at *
  generalize b.glob = gl at *
  generalize d.table = tb at *
  generalize d.order = od at *
  generalize d.desc = ds at *
  generalize d.limit = lm at *
  generalize p.kind = kd at *
  generalize p.col = pc at *
  generalize p.val = pv at *
  have HB0 := Lib.hid (below_new4 w (.cells #[.slice A n c] 41) (.cells #[.string nm, .string gl, .slice A2 n2 p2, .slice A3 n3 p3] 43) (.cells #[.string tb, .slice B1 m1 q1, .slice B2 m2 q2, .string od, .bool ds, .int .i64 lm] 47) (.cells #[.int .i64 kd, .string pc, .string pv] 49))
  have HX0 := Lib.hid (heap_0of4 w (.cells #[.slice A n c] 41) (.cells #[.string nm, .string gl, .slice A2 n2 p2, .slice A3 n3 p3] 43) (.cells #[.string tb, .slice B1 m1 q1, .slice B2 m2 q2, .string od, .bool ds, .int .i64 lm] 47) (.cells #[.int .i64 kd, .string pc, .string pv] 49))
  have HX1 := Lib.hid (heap_1of4 w (.cells #[.slice A n c] 41) (.cells #[.string nm, .string gl, .slice A2 n2 p2, .slice A3 n3 p3] 43) (.cells #[.string tb, .slice B1 m1 q1, .slice B2 m2 q2, .string od, .bool ds, .int .i64 lm] 47) (.cells #[.int .i64 kd, .string pc, .string pv] 49))
  have HX2 := Lib.hid (heap_2of4 w (.cells #[.slice A n c] 41) (.cells #[.string nm, .string gl, .slice A2 n2 p2, .slice A3 n3 p3] 43) (.cells #[.string tb, .slice B1 m1 q1, .slice B2 m2 q2, .string od, .bool ds, .int .i64 lm] 47) (.cells #[.int .i64 kd, .string pc, .string pv] 49))
  have HX3 := Lib.hid (heap_3of4 w (.cells #[.slice A n c] 41) (.cells #[.string nm, .string gl, .slice A2 n2 p2, .slice A3 n3 p3] 43) (.cells #[.string tb, .slice B1 m1 q1, .slice B2 m2 q2, .string od, .bool ds, .int .i64 lm] 47) (.cells #[.int .i64 kd, .string pc, .string pv] 49))
  go_enter Tryz.func15, Tryz.ntmps15
  go_wp2_with fail
  refine (HK1.out _ HB0.out).mono ?_
  rintro e w1 ⟨rfl, hb1⟩
  have HB1 := Lib.hid (HB0.out.later hb1)
  have HY0 := Lib.hid (Blk.later HX0.out hb1 (by first | (simp; done) | (simp; omega)))
  have HY1 := Lib.hid (Blk.later HX1.out hb1 (by first | (simp; done) | (simp; omega)))
  have HY2 := Lib.hid (Blk.later HX2.out hb1 (by first | (simp; done) | (simp; omega)))
  have HY3 := Lib.hid (Blk.later HX3.out hb1 (by first | (simp; done) | (simp; omega)))
  clear hb1 HX0 HX1 HX2 HX3
  cases xt
  · have HE : Hid (R = (0, 1)) := by unfold Hid; rw [HR.out]; rfl
    go_wp2_with fail
    refine bodyPost_ret (v := .tuple #[.int .i64 _, .int .i64 _]) (by simp [results, Tryz.results15, go_sem]; try exact ⟨rfl, rfl⟩) rfl ?_
    exact ⟨by rw [HE.out], HB1.out⟩
  have p0 := HY0.out.cell
  have p1 := HY1.out.cell
  have p2' := HY2.out.cell
  have p3' := HY3.out.cell
  have z3 := HY3.out.lt
  go_wp2_with fail
  refine (HK2.out _ HB1.out).mono ?_
  rintro e w2 ⟨rfl, hb2⟩
  have HB2 := Lib.hid (HB1.out.later hb2)
  have HZ0 := Lib.hid (HY0.out.later hb2 HY0.out.lt)
  have HZ1 := Lib.hid (HY1.out.later hb2 HY1.out.lt)
  have HZ3 := Lib.hid (HY3.out.later hb2 HY3.out.lt)
  clear hb2 p0 p1 p2' p3' z3 HY0 HY1 HY2 HY3
  cases xf
  · have HE : Hid (R = (0, 1)) := by unfold Hid; rw [HR.out]; rfl
    go_wp2_with fail
    refine bodyPost_ret (v := .tuple #[.int .i64 _, .int .i64 _]) (by simp [results, Tryz.results15, go_sem]; try exact ⟨rfl, rfl⟩) rfl ?_
    exact ⟨by rw [HE.out], HB2.out⟩
  have p0 := HZ0.out.cell
  have p1 := HZ1.out.cell
  have p3' := HZ3.out.cell
  have z3 := HZ3.out.lt
  have hRS : R = (if kd = 1 then (if 0 ≤ atI (rowsN gl fs) pv then 1 else 0) else if kd = 2 then ((keysN gl pc pv fs).length : Int) else ((rowsN gl fs).length : Int), 0) := by rw [HR.out]; rfl
  have HRS := Lib.hid hRS
  clear hRS HR
  generalize hk3 : rowsN gl fs = rs at *
  clear hk3
  go_wp2_with fail
  refine (HK3.out _ HB2.out).mono ?_
  rintro e w3 ⟨v, cs, rfl, ho, hc, hb3⟩
  have HB3 := Lib.hid (HB2.out.later hb3)
  have HV0 := Lib.hid (HZ0.out.later hb3 HZ0.out.lt)
  have HV1 := Lib.hid (HZ1.out.later hb3 HZ1.out.lt)
  have HV3 := Lib.hid (HZ3.out.later hb3 HZ3.out.lt)
  have HO := Lib.hid ho
  have HC := Lib.hid (cellsN_iff.1 hc)
  have Hb3 := Lib.hid hb3
  clear hb3 ho hc p0 p1 p3' z3
  have p0 := HV0.out.cell
  have p1 := HV1.out.cell
  have p3' := HV3.out.cell
  have z3 := HV3.out.lt
  by_cases h1 : kd = 1
  · have HE : Hid (R = (if 0 ≤ atI rs pv then 1 else 0, 0)) := by unfold Hid; rw [HRS.out, if_pos h1]
    subst h1
    have HPd : Hid (PredNode 44 #[.pointer (some ⟨w.heap.size + 1 + 1 + 1, 0, none⟩)] (fun d => !keyP pv d) rs w2) :=
      fun d hd c0 c1 c2 W hW hr => PlanCost1_any _ c0 c1 c2 _ _ pv d W (HZ3.out.later hW HZ3.out.lt) hr (H2.out d hd)
    have HD := Lib.hid (DeleteFuncN_any 44 #[.pointer (some ⟨w.heap.size + 1 + 1 + 1, 0, none⟩)] (fun d => !keyP pv d) v rs cs w2 w3 (nodeC w2 w2.heap.size) (fun _ _ h => h) HO.out HC.out Hb3.out HL.out (enters_of Tryz.func44 (by kernel_rfl) rfl) HPd.out)
    have hF : (rs.filter fun d => !(!keyP pv d)) = rs.filter (keyP pv) := by congr 1; funext d; simp
    rw [hF] at HD
    have HN := Lib.hid (HKey.out (by trivial))
    have HN2 : Hid ((rs.filter (keyP pv)).length ≤ 1048576) := Nat.le_trans (List.length_filter_le _ _) HL.out
    clear hF HKey HRS HPd
    generalize rs.filter (keyP pv) = ks at *
    go_wp2_with fail
    refine HD.out.mono ?_
    rintro e w4 ⟨v4, cs4, rfl, ho4, _, hb4⟩
    obtain ⟨A4, cap4, rfl, _⟩ := Own.own_slice ho4
    have HB4 := Lib.hid (HB2.out.later hb4)
    have HKc := Lib.hid (countN_any A4 ks.length cap4 w4 HN2.out)
    clear ho4 hb4
    go_wp2_with fail
    refine HKc.out.mono ?_
    rintro e w5 ⟨rfl, rfl⟩
    go_wp2_with fail
    refine bodyPost_ret (v := .tuple #[.int .i64 _, .int .i64 _]) (by simp [results, Tryz.results15, go_sem]; try exact ⟨rfl, rfl⟩) rfl ?_
    exact ⟨by rw [HE.out, HN.out], HB4.out⟩
  by_cases h2 : kd = 2
  · have HE : Hid (R = (((keysN gl pc pv fs).length : Int), 0)) := by unfold Hid; rw [HRS.out, if_neg h1, if_pos h2]
    subst h2
    clear HRS HKey h1
    generalize keysN gl pc pv fs = ks at *
    go_wp2_with fail
    refine (HK4.out _ HB3.out).mono ?_
    rintro e w4 ⟨v4, rfl, ho4, hb4⟩
    obtain ⟨A4, cap4, rfl, _⟩ := ho4.strs
    have HB4 := Lib.hid (HB3.out.later hb4)
    have HKc := Lib.hid (countS_any A4 ks.length cap4 w4 HL2.out)
    clear ho4 hb4
    go_wp2_with fail
    refine HKc.out.mono ?_
    rintro e w5 ⟨rfl, rfl⟩
    go_wp2_with fail
    refine bodyPost_ret (v := .tuple #[.int .i64 _, .int .i64 _]) (by simp [results, Tryz.results15, go_sem]; try exact ⟨rfl, rfl⟩) rfl ?_
    exact ⟨by rw [HE.out], HB4.out⟩
  · have HE : Hid (R = ((rs.length : Int), 0)) := by unfold Hid; rw [HRS.out, if_neg h1, if_neg h2]
    have i1 := int_beq h1
    have i2 := int_beq h2
    obtain ⟨A4, cap4, rfl, _⟩ := Own.own_slice HO.out
    have HKc := Lib.hid (countN_any A4 rs.length cap4 w3 HL.out)
    clear HRS HKey h1 h2
    go_wp2_with fail
    refine HKc.out.mono ?_
    rintro e w5 ⟨rfl, rfl⟩
    go_wp2_with fail
    refine bodyPost_ret (v := .tuple #[.int .i64 _, .int .i64 _]) (by simp [results, Tryz.results15, go_sem]; try exact ⟨rfl, rfl⟩) rfl ?_
    exact ⟨by rw [HE.out], HB3.out⟩
end Go.Proofs.YtalpafaflgddpaaGreatDoor

