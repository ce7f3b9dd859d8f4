/-
  Queries of the program: what QueryOk computes: just what the reference's does.
-/
import Derived.Test.YtalpafaflgddpaaGreatDoorPi3
namespace Go.Proofs.YtalpafaflgddpaaGreatDoor
open Go.RowKit

def lastI (od : ByteArray) (ds : Bool) : Bool := nameB od || (decide (od = ⟨#[]⟩) && !ds)
def queryI (q : QueryD) : Bool := nameB q.table && (decide (q.cols.length ≤ 5) && (distB q.cols && (decide (q.wher.length ≤ 3) && (inB q.limit 0 24 && (!(q.cols.any fun s => !nameB s) && (!(q.wher.any fun c => !condB c) && lastI q.order q.desc))))))
theorem nameB_empty : nameB ⟨#[]⟩ = false := by rfl
theorem last_eq (od : ByteArray) (ds : Bool) : lastI od ds = (orderB od && (!ds || decide (od ≠ ⟨#[]⟩))) := by
  unfold lastI orderB
  by_cases h : od = ⟨#[]⟩
  · subst h
    rw [nameB_empty]
    cases ds <;> simp
  · rw [decide_eq_false h, decide_eq_true h]
    cases nameB od <;> cases ds <;> rfl
theorem any_not_all {α : Type} (p : α → Bool) (l : List α) : (!(l.any fun c => !p c)) = l.all p := by
  induction l with
  | nil => rfl
  | cons a r ih => rw [List.any_cons, List.all_cons, ← ih]; cases p a <;> simp
theorem queryI_eq (q : QueryD) : queryI q = queryB q := by
  unfold queryI queryB
  rw [cols_eq, any_not_all condB q.wher, last_eq]
  generalize nameB q.table = a
  generalize decide (q.cols.length ≤ 5) = b
  generalize distB q.cols = c
  generalize decide (q.wher.length ≤ 3) = d
  generalize inB q.limit 0 24 = e
  generalize q.wher.all condB = g
  generalize orderB q.order = o
  generalize (!q.desc || decide (q.order ≠ ⟨#[]⟩)) = k
  generalize (q.cols.any fun s => !nameB s) = f
  cases a <;> cases b <;> cases c <;> cases d <;> cases e <;> cases f <;> cases g <;> cases o <;> cases k <;> rfl

set_option maxRecDepth 100000 in
set_option maxHeartbeats 4000000 in
theorem QueryOk_any (c0 c1 c2 c3 c4 c5 : Value) (d : QueryD) (w : World) (h : QueryR w w.heap.size c0 c1 c2 c3 c4 c5 d) (hs : d.small) :
    Calls Tryz.prog 89 #[.agg #[c0, c1, c2, c3, c4, c5]] w fun e w' => e = .returned (.bool (queryB d)) ∧ Below w.heap.size w w' := by
  obtain ⟨rfl, ⟨A1, n1, p1, rfl, s1, k1⟩, ⟨A2, n2, p2, rfl, s2, k2⟩, rfl, rfl, rfl⟩ := h
  obtain ⟨f0, ⟨f1, f1'⟩, ⟨f2, f2'⟩, f3⟩ := hs
  have hn1 : n1 ≤ 1048576 := by rw [← s1.1]; exact f1
  have hn2 : n2 ≤ 1048576 := by rw [← s2.1]; exact f2
  have HR : Hid (queryB d = (nameB d.table && (decide (n1 ≤ 5) && (distB d.cols && (decide (n2 ≤ 3) && (inB d.limit 0 24 && (!(d.cols.any fun s => !nameB s) && (!(d.wher.any fun c => !condB c) && lastI d.order d.desc)))))))) := by unfold Hid; rw [← queryI_eq]; unfold queryI; rw [s1.1, s2.1]
  have HK0 := Lib.hid (fun W => NameOk_any d.table W f0)
  have HK3 := Lib.hid (fun W => NameOk_any d.order W f3)
  have HK5 := Lib.hid (fun W => withinB_any d.limit 0 24 W)
  have HKd := Lib.hid (fun W (hW : Below w.heap.size w W) => distinct_any A1 n1 p1 d.cols W (s1.later hW) hn1)
  have HKf := Lib.hid (fun W (hW : Below w.heap.size w W) => ContainsFuncS_same 128 #[] (fun s => !nameB s) A1 n1 p1 d.cols W (s1.later hW) hn1 (enters_of Tryz.func128 (by kernel_rfl) rfl) (fun s hs => QueryOk1_any s W (f1' s hs)))
  have HKg := Lib.hid (fun W (hW : Below w.heap.size w W) => ContainsFuncCond_any 129 #[] (fun c => !condB c) A2 n2 p2 d.wher W (s2.later hW) hn2 (enters_of Tryz.func129 (by kernel_rfl) rfl) (fun c hc c0 c1 c2 W' _ hr => QueryOk2_any c0 c1 c2 c W' hr (f2' c hc)))
  have HL : Hid (lastI d.order d.desc = (nameB d.order || (decide (d.order = ⟨#[]⟩) && !d.desc))) := rfl
  clear s1 s2 f2' f1' f2 f1 f0 f3
  generalize queryB d = R at *
  generalize lastI d.order d.desc = xl at *
  generalize nameB d.table = x0 at *
  generalize nameB d.order = x3 at *
  generalize inB d.limit 0 24 = x5 at *
  generalize distB d.cols = xd at *
  generalize (d.cols.any fun s => !nameB s) = xf at *
  generalize (d.wher.any fun c => !condB c) = xg at *
  generalize d.table = tb at *
  generalize d.order = od at *
  generalize d.desc = ds at *
  generalize d.limit = lm at *
  have HB0 := Lib.hid (Below.new w (.cells #[.string tb, .slice A1 n1 p1, .slice A2 n2 p2, .string od, .bool ds, .int .i64 lm] 47))
  go_enter Tryz.func89, Tryz.ntmps89
  go_wp2_with fail
  refine (HK0.out _).mono ?_
  rintro e w1 ⟨rfl, rfl⟩
  cases x0
  · have HE : Hid (R = false) := by unfold Hid; rw [HR.out]; rfl
    go_wp2_with fail
    go_ret
    exact ⟨ret_bool HE.out.symm, HB0.out⟩
  by_cases a1 : 5 < n1
  · have HE : Hid (R = false) := by unfold Hid; rw [HR.out, decide_eq_false (show ¬ n1 ≤ 5 by omega)]; rfl
    go_wp2_with fail
    go_ret
    exact ⟨ret_bool HE.out.symm, HB0.out⟩
  have HR1 : Hid (R = (xd && (decide (n2 ≤ 3) && (x5 && (!xf && (!xg && xl)))))) := by unfold Hid; rw [HR.out, decide_eq_true (show n1 ≤ 5 by omega)]; rfl
  clear HR
  go_wp2_with fail
  refine (HKd.out _ HB0.out).mono ?_
  rintro e w1 ⟨rfl, hb1⟩
  have px := (Blk.later (heap_alloc_new w _) hb1 (by simp)).cell
  have hz1 : w.heap.size < w1.heap.size := by have := hb1.size; simp at this; omega
  have HB1 := Lib.hid (HB0.out.later hb1)
  have HBB := Lib.hid hb1
  clear hb1
  cases xd
  · have HE : Hid (R = false) := by unfold Hid; rw [HR1.out]; rfl
    go_wp2_with fail
    go_ret
    exact ⟨ret_bool HE.out.symm, HB1.out⟩
  by_cases a2 : 3 < n2
  · have HE : Hid (R = false) := by unfold Hid; rw [HR1.out, decide_eq_false (show ¬ n2 ≤ 3 by omega)]; rfl
    go_wp2_with fail
    go_ret
    exact ⟨ret_bool HE.out.symm, HB1.out⟩
  have HR2 : Hid (R = (x5 && (!xf && (!xg && xl)))) := by unfold Hid; rw [HR1.out, decide_eq_true (show n2 ≤ 3 by omega)]; rfl
  clear HR1
  go_wp2_with fail
  refine (HK5.out _).mono ?_
  rintro e w2 ⟨rfl, rfl⟩
  cases x5
  · have HE : Hid (R = false) := by unfold Hid; rw [HR2.out]; rfl
    go_wp2_with fail
    go_ret
    exact ⟨ret_bool HE.out.symm, HB1.out⟩
  go_wp2_with fail
  refine (HKf.out _ HB1.out).mono ?_
  rintro e w2 ⟨rfl, rfl⟩
  cases xf
  case true =>
    have HE : Hid (R = false) := by unfold Hid; rw [HR2.out]; rfl
    go_wp2_with fail
    go_ret
    exact ⟨ret_bool HE.out.symm, HB1.out⟩
  go_wp2_with fail
  refine (HKg.out _ HB1.out).mono ?_
  rintro e w2 ⟨rfl, hb2⟩
  have hb3 := HBB.out.trans (hb2.mono (by simp; omega))
  clear px
  have px := (Blk.later (heap_alloc_new w _) hb3 (by simp)).cell
  have hz2 : w.heap.size < w2.heap.size := by have := hb3.size; simp at this; omega
  have HB2 := Lib.hid (HB1.out.later hb2)
  clear hb2 hb3
  cases xg
  case true =>
    have HE : Hid (R = false) := by unfold Hid; rw [HR2.out]; rfl
    go_wp2_with fail
    go_ret
    exact ⟨ret_bool HE.out.symm, HB2.out⟩
  have HE : Hid (R = (x3 || (decide (od = ⟨#[]⟩) && !ds))) := by unfold Hid; rw [HR2.out, ← HL.out]; rfl
  go_wp2_with fail
  refine (HK3.out _).mono ?_
  rintro e w3 ⟨rfl, rfl⟩
  cases x3
  case true =>
    have HE2 : Hid (R = true) := by unfold Hid; rw [HE.out]; rfl
    go_wp2_with fail
    go_ret
    exact ⟨ret_bool HE2.out.symm, HB2.out⟩
  by_cases ho : od = ⟨#[]⟩
  · subst ho
    have HE2 : Hid (R = !ds) := by unfold Hid; rw [HE.out]; simp
    cases ds
    all_goals
      go_wp2_with fail
      go_ret
      exact ⟨ret_bool HE2.out.symm, HB2.out⟩
  · have HE2 : Hid (R = false) := by unfold Hid; rw [HE.out, decide_eq_false ho]; rfl
    have hbe := str_beq ho
    have hbe3 := ne_empty ho
    clear ho
    go_wp2_with fail
    go_ret
    exact ⟨ret_bool HE2.out.symm, HB2.out⟩
end Go.Proofs.YtalpafaflgddpaaGreatDoor
