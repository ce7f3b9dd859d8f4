/-
  Tables and queries of the program: what TableOk and QueryOk compute: just what the reference's do.
-/
import Derived.Test.YtalpafaflgddpaaGreatDoorPi2
namespace Go.Proofs.YtalpafaflgddpaaGreatDoor
open Go.RowKit

theorem colAt_eq (cols : List ByteArray) (k : Nat) : colAt cols k = (nameB (cols.getD k ByteArray.empty) && distAt cols k) := by
  unfold colAt distAt inS
  rw [← placeI_in]
  congr 1
  rw [Bool.eq_iff_iff]
  simp only [decide_eq_true_eq, Bool.not_eq_true', decide_eq_false_iff_not]
  omega
theorem cols_eq (cols : List ByteArray) : allFrom (colAt cols) 0 cols.length = (distB cols && !(cols.any fun s => !nameB s)) := by
  rw [Bool.eq_iff_iff, allFrom_all]
  unfold distB
  rw [Bool.and_eq_true, decide_eq_true_eq, Bool.not_eq_true', List.any_eq_false]
  constructor
  · intro h
    refine ⟨fun k hk => ?_, fun s hs => ?_⟩
    · have := h k (Nat.zero_le _) (by omega)
      rw [colAt_eq, Bool.and_eq_true] at this
      exact this.2
    · obtain ⟨k, hk, rfl⟩ := List.getElem_of_mem hs
      have := h k (Nat.zero_le _) (by omega)
      rw [colAt_eq, Bool.and_eq_true, List.getD_eq_getElem?_getD, List.getElem?_eq_getElem hk, Option.getD_some] at this
      simp [this.1]
  · rintro ⟨h1, h2⟩ k _ hk
    rw [colAt_eq, Bool.and_eq_true]
    refine ⟨?_, h1 k (by omega)⟩
    have := h2 (cols.getD k ByteArray.empty) (by
      have hk' : k < cols.length := by omega
      rw [List.getD_eq_getElem?_getD, List.getElem?_eq_getElem hk']; simp)
    simpa using this
theorem idxB_len (cols : List ByteArray) : ∀ (l : List ByteArray) (m : Int), idxB cols l m = true → m < cols.length → m + l.length < cols.length
  | [], m, _, h => by simpa using h
  | x :: r, m, h, hm => by
    rw [idxB, Bool.and_eq_true, decide_eq_true_eq] at h
    have hb := placeI_bd cols x
    have := idxB_len cols r (placeI cols x) h.2 hb.2
    simp only [List.length_cons]
    omega
def tabI (d : TableD) : Bool := nameB d.name && (nameB d.glob && (inB d.cols.length 1 5 && (distB d.cols && (!(d.cols.any fun s => !nameB s) && idxB d.cols d.idx 0))))
theorem tabI_eq (d : TableD) : tabI d = tabB d := by
  unfold tabI tabB
  congr 1
  congr 1
  rw [cols_eq]
  by_cases h1 : 1 ≤ d.cols.length
  · by_cases h5 : d.cols.length ≤ 5
    · have hi : inB d.cols.length 1 5 = true := by unfold inB; rw [decide_eq_true (show (1 : Int) ≤ d.cols.length by omega), decide_eq_true (show (d.cols.length : Int) ≤ 5 by omega)]; rfl
      rw [hi, decide_eq_true h1, decide_eq_true h5]
      cases hx : idxB d.cols d.idx 0
      · simp
      · have := idxB_len d.cols d.idx 0 hx (by omega)
        rw [decide_eq_true (show d.idx.length < d.cols.length by omega)]
        simp
    · have hi : inB d.cols.length 1 5 = false := by unfold inB; rw [decide_eq_false (show ¬ (d.cols.length : Int) ≤ 5 by omega)]; simp
      rw [hi, decide_eq_false h5]; simp
  · have hi : inB d.cols.length 1 5 = false := by unfold inB; rw [decide_eq_false (show ¬ (1 : Int) ≤ d.cols.length by omega)]; rfl
    rw [hi, decide_eq_false h1]; rfl

set_option maxRecDepth 100000 in
set_option maxHeartbeats 4000000 in
theorem TableOk_any (c0 c1 c2 c3 : Value) (d : TableD) (w : World) (h : TableR w w.heap.size c0 c1 c2 c3 d) (hs : d.small) :
    Calls Tryz.prog 88 #[.agg #[c0, c1, c2, c3]] w fun e w' => e = .returned (.bool (tabB d)) ∧ Below w.heap.size w w' := by
  obtain ⟨rfl, rfl, ⟨A2, n2, p2, rfl, s2, k2⟩, ⟨A3, n3, p3, rfl, s3, k3⟩⟩ := h
  obtain ⟨f0, f1, ⟨f2, f2'⟩, ⟨f3, f3'⟩⟩ := hs
  have hn2 : n2 ≤ 1048576 := by rw [← s2.1]; exact f2
  have hn3 : n3 ≤ 1048576 := by rw [← s3.1]; exact f3
  have HR : Hid (tabB d = (nameB d.name && (nameB d.glob && (inB n2 1 5 && (distB d.cols && (!(d.cols.any fun s => !nameB s) && idxB d.cols d.idx 0)))))) := by unfold Hid; rw [← tabI_eq]; unfold tabI; rw [s2.1]
  have HK0 := Lib.hid (fun W => NameOk_any d.name W f0)
  have HK1 := Lib.hid (fun W => NameOk_any d.glob W f1)
  have HKc := Lib.hid (fun W => countS_any A2 n2 p2 W hn2)
  have HKw := Lib.hid (fun W => withinB_any (n2 : Int) 1 5 W)
  have HKd := Lib.hid (fun W (hW : Below w.heap.size w W) => distinct_any A2 n2 p2 d.cols W (s2.later hW) hn2)
  have HKf := Lib.hid (fun W (hW : Below w.heap.size w W) => ContainsFuncS_same 127 #[] (fun s => !nameB s) A2 n2 p2 d.cols W (s2.later hW) hn2 (enters_of Tryz.func127 (by kernel_rfl) rfl) (fun s hs => TableOk1_any s W (f2' s hs)))
  have HKi := Lib.hid (fun W (hW : Below w.heap.size w W) (x : ByteArray) => IndexS_any A2 n2 p2 d.cols x W (s2.later hW) hn2)
  have HS3 := Lib.hid s3
  have HL2 := Lib.hid s2.1
  clear s2 s3 f2' f3' f2 f3 f0 f1
  have HB0 := Lib.hid (Below.new w (.cells #[.string d.name, .string d.glob, .slice A2 n2 p2, .slice A3 n3 p3] 43))
  generalize tabB d = R at *
  generalize nameB d.name = x0 at *
  generalize nameB d.glob = x1 at *
  generalize inB n2 1 5 = x2 at *
  generalize distB d.cols = x3 at *
  generalize (d.cols.any fun s => !nameB s) = x4 at *
  generalize d.name = nm at *
  generalize d.glob = gl at *
  generalize d.cols = cols at *
  generalize d.idx = idx at *
  go_enter Tryz.func88, Tryz.ntmps88
  go_wp2_with fail
  refine (HK0.out _).mono ?_
  rintro e w1 ⟨rfl, rfl⟩
  cases x0
  · have HE : Hid (R = false) := by unfold Hid; rw [HR.out]; rfl
    go_wp2_with fail
    go_ret
    exact ⟨ret_bool HE.out.symm, HB0.out⟩
  go_wp2_with fail
  refine (HK1.out _).mono ?_
  rintro e w1 ⟨rfl, rfl⟩
  cases x1
  · have HE : Hid (R = false) := by unfold Hid; rw [HR.out]; rfl
    go_wp2_with fail
    go_ret
    exact ⟨ret_bool HE.out.symm, HB0.out⟩
  go_wp2_with fail
  refine (HKc.out _).mono ?_
  rintro e w1 ⟨rfl, rfl⟩
  go_wp2_with fail
  refine (HKw.out _).mono ?_
  rintro e w1 ⟨rfl, rfl⟩
  cases x2
  · have HE : Hid (R = false) := by unfold Hid; rw [HR.out]; rfl
    go_wp2_with fail
    go_ret
    exact ⟨ret_bool HE.out.symm, HB0.out⟩
  go_wp2_with fail
  refine (HKd.out _ HB0.out).mono ?_
  rintro e w1 ⟨rfl, hb1⟩
  have px := (Blk.later (heap_alloc_new w _) hb1 (by simp)).cell
  have hz1 : w.heap.size < w1.heap.size := by have := hb1.size; simp at this; omega
  have HB1 := Lib.hid (HB0.out.later hb1)
  clear hb1
  cases x3
  · have HE : Hid (R = false) := by unfold Hid; rw [HR.out]; rfl
    go_wp2_with fail
    go_ret
    exact ⟨ret_bool HE.out.symm, HB1.out⟩
  go_wp2_with fail
  refine (HKf.out _ HB1.out).mono ?_
  rintro e w2 ⟨rfl, rfl⟩
  cases x4
  case true =>
    have HE : Hid (R = false) := by unfold Hid; rw [HR.out]; rfl
    go_wp2_with fail
    go_ret
    exact ⟨ret_bool HE.out.symm, HB1.out⟩
  have HE : Hid (R = idxB cols (idx.drop 0) 0) := by unfold Hid; rw [HR.out]; rfl
  go_wp2_with fail
  go_loopw [3, 36] (fun l i wr => ∃ (j : Nat) (m : Int), j ≤ n3 ∧ i = .int .i64 j ∧ l = .int .i64 m ∧ 0 ≤ m ∧ m ≤ 1048576 ∧ wr = w1 ∧ Hid (R = idxB cols (idx.drop j) m)) (fun _ i _ => n3 - (intOf i).toNat)
  case atStart => exact ⟨0, 0, Nat.zero_le _, rfl, rfl, by omega, by omega, rfl, HE.out⟩
  case round =>
    obtain ⟨j, m, hj, rfl, rfl, hm0, hm1, rfl, hS2⟩ := hrel
    by_cases hltj : j < n3
    · obtain ⟨b, o, rfl, hb, hcell⟩ := (HS3.out.later HB1.out).2 (by omega)
      have hck := hcell j hltj
      clear hcell
      have hl : j < idx.length := by rw [HS3.out.1]; exact hltj
      have HSt := Lib.hid (idxB_step cols idx j m hl)
      have HKp := Lib.hid (HKi.out _ HB1.out (idx.getD j ByteArray.empty))
      have hbd := placeI_bd cols (idx.getD j ByteArray.empty)
      rw [HL2.out] at hbd
      clear hl
      generalize idx.getD j ByteArray.empty = s at *
      generalize placeI cols s = y at *
      go_wp2_with fail
      refine HKp.out.mono ?_
      rintro e w2 ⟨rfl, rfl⟩
      by_cases hy : y ≤ m
      · have HE3 : Hid (R = false) := by unfold Hid; rw [hS2.out, HSt.out, decide_eq_false (show ¬ m < y by omega)]; rfl
        go_wp2_with fail
        go_ret
        exact ⟨ret_bool HE3.out.symm, HB1.out⟩
      · have HE3 : Hid (R = idxB cols (idx.drop (j + 1)) y) := by unfold Hid; rw [hS2.out, HSt.out, decide_eq_true (show m < y by omega)]; rfl
        go_wp2_with fail
        go_roundw
        case rel => exact ⟨j + 1, y, by omega, by go_num, rfl, by omega, by omega, (by first | rfl | trivial), HE3.out⟩
        case measure => simp [intOf]; omega
    · have HE3 : Hid (R = true) := by unfold Hid; rw [hS2.out, List.drop_of_length_le (by rw [HS3.out.1]; omega)]; rfl
      go_wp2_with fail
      go_ret
      exact ⟨ret_bool HE3.out.symm, HB1.out⟩
end Go.Proofs.YtalpafaflgddpaaGreatDoor
