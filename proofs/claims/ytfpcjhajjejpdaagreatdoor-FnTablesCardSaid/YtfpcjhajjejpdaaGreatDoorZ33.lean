/-
  Tables and queries of the program: what TableOk and QueryOk compute: just what the reference's do. Tables: RowsOf of the reference and of the program. (Printed by gen_tw1.py.)
-/
import Derived.Test.YtfpcjhajjejpdaaGreatDoorZ15
import Derived.Test.YtfpcjhajjejpdaaGreatDoorZ31
import Derived.Test.YtfpcjhajjejpdaaGreatDoorZ20
import Derived.Test.YtfpcjhajjejpdaaGreatDoorZ12
import Derived.Test.YtfpcjhajjejpdaaGreatDoorZ29
import Derived.Test.YtfpcjhajjejpdaaGreatDoorZ13
import Derived.Test.YtfpcjhajjejpdaaGreatDoorZ28
import Derived.Test.YtfpcjhajjejpdaaGreatDoorZ32
import Derived.Test.YtfpcjhajjejpdaaGreatDoorZ18
import Derived.Test.YtfpcjhajjejpdaaGreatDoorZ00
import Derived.Deep.AppendLies
import Derived.Deep.DeepCutAuto
import Derived.Deep.RegionHeld3
namespace Go.Proofs.YtfpcjhajjejpdaaGreatDoor
open Go.RowKit

theorem colAt_eq (cols : List ByteArray) (k : Nat) : colAt cols k = (nameB (cols.getD k ByteArray.empty) && distAt cols k) := by
  unfold colAt distAt inS
  rw [← placeI_in]
  congr 1
  rw [Bool.eq_iff_iff]
  simp only [decide_eq_true_eq, Bool.not_eq_true', decide_eq_false_iff_not]
  omega
theorem cols_eq (cols : List ByteArray) : allFrom (colAt cols) 0 cols.length = (distB cols && !(cols.any fun s => !nameB s)) := by
  rw [Bool.eq_iff_iff, allFrom_all]
  unfold distB
  rw [Bool.and_eq_true, decide_eq_true_eq, Bool.not_eq_true', List.any_eq_false]
  constructor
  · intro h
    refine ⟨fun k hk => ?_, fun s hs => ?_⟩
    · have := h k (Nat.zero_le _) (by omega)
      rw [colAt_eq, Bool.and_eq_true] at this
      exact this.2
    · obtain ⟨k, hk, rfl⟩ := List.getElem_of_mem hs
      have := h k (Nat.zero_le _) (by omega)
      rw [colAt_eq, Bool.and_eq_true, List.getD_eq_getElem?_getD, List.getElem?_eq_getElem hk, Option.getD_some] at this
      simp [this.1]
  · rintro ⟨h1, h2⟩ k _ hk
    rw [colAt_eq, Bool.and_eq_true]
    refine ⟨?_, h1 k (by omega)⟩
    have := h2 (cols.getD k ByteArray.empty) (by
      have hk' : k < cols.length := by omega
      rw [List.getD_eq_getElem?_getD, List.getElem?_eq_getElem hk']; simp)
    simpa using this
theorem idxB_len (cols : List ByteArray) : ∀ (l : List ByteArray) (m : Int), idxB cols l m = true → m < cols.length → m + l.length < cols.length
  | [], m, _, h => by simpa using h
  | x :: r, m, h, hm => by
    rw [idxB, Bool.and_eq_true, decide_eq_true_eq] at h
    have hb := placeI_bd cols x
    have := idxB_len cols r (placeI cols x) h.2 hb.2
    simp only [List.length_cons]
    omega
def tabI (d : TableD) : Bool := nameB d.name && (nameB d.glob && (inB d.cols.length 1 5 && (distB d.cols && (!(d.cols.any fun s => !nameB s) && idxB d.cols d.idx 0))))
theorem tabI_eq (d : TableD) : tabI d = tabB d := by
  unfold tabI tabB
  congr 1
  congr 1
  rw [cols_eq]
  by_cases h1 : 1 ≤ d.cols.length
  · by_cases h5 : d.cols.length ≤ 5
    · have hi : inB d.cols.length 1 5 = true := by unfold inB; rw [decide_eq_true (show (1 : Int) ≤ d.cols.length by omega), decide_eq_true (show (d.cols.length : Int) ≤ 5 by omega)]; rfl
      rw [hi, decide_eq_true h1, decide_eq_true h5]
      cases hx : idxB d.cols d.idx 0
      · simp
      · have := idxB_len d.cols d.idx 0 hx (by omega)
        rw [decide_eq_true (show d.idx.length < d.cols.length by omega)]
        simp
    · have hi : inB d.cols.length 1 5 = false := by unfold inB; rw [decide_eq_false (show ¬ (d.cols.length : Int) ≤ 5 by omega)]; simp
      rw [hi, decide_eq_false h5]; simp
  · have hi : inB d.cols.length 1 5 = false := by unfold inB; rw [decide_eq_false (show ¬ (1 : Int) ≤ d.cols.length by omega)]; rfl
    rw [hi, decide_eq_false h1]; rfl

set_option maxRecDepth 100000 in
set_option maxHeartbeats 4000000 in
theorem TableOk_any (c0 c1 c2 c3 : Value) (d : TableD) (w : World) (h : TableR w w.heap.size c0 c1 c2 c3 d) (hs : d.small) :
    Calls Tryz.prog 52 #[.agg #[c0, c1, c2, c3]] w fun e w' => e = .returned (.bool (tabB d)) ∧ Below w.heap.size w w' := by
  obtain ⟨rfl, rfl, ⟨A2, n2, p2, rfl, s2, k2⟩, ⟨A3, n3, p3, rfl, s3, k3⟩⟩ := h
  obtain ⟨f0, f1, ⟨f2, f2'⟩, ⟨f3, f3'⟩⟩ := hs
  have hn2 : n2 ≤ 1048576 := by rw [← s2.1]; exact f2
  have hn3 : n3 ≤ 1048576 := by rw [← s3.1]; exact f3
  have HR : Hid (tabB d = (nameB d.name && (nameB d.glob && (inB n2 1 5 && (distB d.cols && (!(d.cols.any fun s => !nameB s) && idxB d.cols d.idx 0)))))) := by unfold Hid; rw [← tabI_eq]; unfold tabI; rw [s2.1]
  have HK0 := Lib.hid (fun W => NameOk_any d.name W f0)
  have HK1 := Lib.hid (fun W => NameOk_any d.glob W f1)
  have HKc := Lib.hid (fun W => countS_any A2 n2 p2 W hn2)
  have HKw := Lib.hid (fun W => withinB_any (n2 : Int) 1 5 W)
  have HKd := Lib.hid (fun W (hW : Below w.heap.size w W) => distinct_any A2 n2 p2 d.cols W (s2.later hW) hn2)
  have HKf := Lib.hid (fun W (hW : Below w.heap.size w W) => ContainsFuncS_same 126 #[] (fun s => !nameB s) A2 n2 p2 d.cols W (s2.later hW) hn2 (enters_of Tryz.func126 (by kernel_rfl) rfl) (fun s hs => TableOk1_any s W (f2' s hs)))
  have HKi := Lib.hid (fun W (hW : Below w.heap.size w W) (x : ByteArray) => IndexS_any A2 n2 p2 d.cols x W (s2.later hW) hn2)
  have HS3 := Lib.hid s3
  have HL2 := Lib.hid s2.1
  clear s2 s3 f2' f3' f2 f3 f0 f1
  have HB0 := Lib.hid (Below.new w (.cells #[.string d.name, .string d.glob, .slice A2 n2 p2, .slice A3 n3 p3] 29))
  generalize tabB d = R at *
  generalize nameB d.name = x0 at *
  generalize nameB d.glob = x1 at *
  generalize inB n2 1 5 = x2 at *
  generalize distB d.cols = x3 at *
  generalize (d.cols.any fun s => !nameB s) = x4 at *
  generalize d.name = nm at *
  generalize d.glob = gl at *
  generalize d.cols = cols at *
  generalize d.idx = idx at *
  go_enter Tryz.func52, Tryz.ntmps52
  go_wp2_with fail
  refine (HK0.out _).mono ?_
  rintro e w1 ⟨rfl, rfl⟩
  cases x0
  · have HE : Hid (R = false) := by unfold Hid; rw [HR.out]; rfl
    go_wp2_with fail
    go_ret
    exact ⟨ret_bool HE.out.symm, HB0.out⟩
  go_wp2_with fail
  refine (HK1.out _).mono ?_
  rintro e w1 ⟨rfl, rfl⟩
  cases x1
  · have HE : Hid (R = false) := by unfold Hid; rw [HR.out]; rfl
    go_wp2_with fail
    go_ret
    exact ⟨ret_bool HE.out.symm, HB0.out⟩
  go_wp2_with fail
  refine (HKc.out _).mono ?_
  rintro e w1 ⟨rfl, rfl⟩
  go_wp2_with fail
  refine (HKw.out _).mono ?_
  rintro e w1 ⟨rfl, rfl⟩
  cases x2
  · have HE : Hid (R = false) := by unfold Hid; rw [HR.out]; rfl
    go_wp2_with fail
    go_ret
    exact ⟨ret_bool HE.out.symm, HB0.out⟩
  go_wp2_with fail
  refine (HKd.out _ HB0.out).mono ?_
  rintro e w1 ⟨rfl, hb1⟩
  have px := (Blk.later (heap_alloc_new w _) hb1 (by simp)).cell
  have hz1 : w.heap.size < w1.heap.size := by have := hb1.size; simp at this; omega
  have HB1 := Lib.hid (HB0.out.later hb1)
  clear hb1
  cases x3
  · have HE : Hid (R = false) := by unfold Hid; rw [HR.out]; rfl
    go_wp2_with fail
    go_ret
    exact ⟨ret_bool HE.out.symm, HB1.out⟩
  go_wp2_with fail
  refine (HKf.out _ HB1.out).mono ?_
  rintro e w2 ⟨rfl, rfl⟩
  cases x4
  case true =>
    have HE : Hid (R = false) := by unfold Hid; rw [HR.out]; rfl
    go_wp2_with fail
    go_ret
    exact ⟨ret_bool HE.out.symm, HB1.out⟩
  have HE : Hid (R = idxB cols (idx.drop 0) 0) := by unfold Hid; rw [HR.out]; rfl
  go_wp2_with fail
  go_loopw [3, 36] (fun l i wr => ∃ (j : Nat) (m : Int), j ≤ n3 ∧ i = .int .i64 j ∧ l = .int .i64 m ∧ 0 ≤ m ∧ m ≤ 1048576 ∧ wr = w1 ∧ Hid (R = idxB cols (idx.drop j) m)) (fun _ i _ => n3 - (intOf i).toNat)
  case atStart => exact ⟨0, 0, Nat.zero_le _, rfl, rfl, by omega, by omega, rfl, HE.out⟩
  case round =>
    obtain ⟨j, m, hj, rfl, rfl, hm0, hm1, rfl, hS2⟩ := hrel
    by_cases hltj : j < n3
    · obtain ⟨b, o, rfl, hb, hcell⟩ := (HS3.out.later HB1.out).2 (by omega)
      have hck := hcell j hltj
      clear hcell
      have hl : j < idx.length := by rw [HS3.out.1]; exact hltj
      have HSt := Lib.hid (idxB_step cols idx j m hl)
      have HKp := Lib.hid (HKi.out _ HB1.out (idx.getD j ByteArray.empty))
      have hbd := placeI_bd cols (idx.getD j ByteArray.empty)
      rw [HL2.out] at hbd
      clear hl
      generalize idx.getD j ByteArray.empty = s at *
      generalize placeI cols s = y at *
      go_wp2_with fail
      refine HKp.out.mono ?_
      rintro e w2 ⟨rfl, rfl⟩
      by_cases hy : y ≤ m
      · have HE3 : Hid (R = false) := by unfold Hid; rw [hS2.out, HSt.out, decide_eq_false (show ¬ m < y by omega)]; rfl
        go_wp2_with fail
        go_ret
        exact ⟨ret_bool HE3.out.symm, HB1.out⟩
      · have HE3 : Hid (R = idxB cols (idx.drop (j + 1)) y) := by unfold Hid; rw [hS2.out, HSt.out, decide_eq_true (show m < y by omega)]; rfl
        go_wp2_with fail
        go_roundw
        case rel => exact ⟨j + 1, y, by omega, by go_num, rfl, by omega, by omega, (by first | rfl | trivial), HE3.out⟩
        case measure => simp [intOf]; omega
    · have HE3 : Hid (R = true) := by unfold Hid; rw [hS2.out, List.drop_of_length_le (by rw [HS3.out.1]; omega)]; rfl
      go_wp2_with fail
      go_ret
      exact ⟨ret_bool HE3.out.symm, HB1.out⟩
end Go.Proofs.YtfpcjhajjejpdaaGreatDoor
namespace Go.Proofs.YtfpcjhajjejpdaaGreatDoor
open Go.RowKit
set_option linter.unusedVariables false

set_option maxRecDepth 100000 in
set_option maxHeartbeats 4000000 in
theorem specRowsOf_any (A : Option Addr) (n c : Nat) (b0 b1 b2 b3 : Value) (fs : List NodeD) (b : TableD) (w : World) (ht : Nodes w w.heap.size A n fs) (hb : TableR w w.heap.size b0 b1 b2 b3 b) (hts : smallNs fs) (hbs : b.small) :
    Calls Tryz.prog 27 #[.agg #[.slice A n c], .agg #[b0, b1, b2, b3]] w (RowsPost (rowsOfB fs b) w) := by
  have HK1 := Lib.hid (fun W (hW : Below w.heap.size w W) => specTreeOk_any A n c fs W (ht.later hW) hts)
  have HK2 := Lib.hid (fun W (hW : Below w.heap.size w W) => l29Ok_any b0 b1 b2 b3 b W (hb.later hW) hbs)
  have HK3 : Hid (treeB fs = true → tabB b = true → ∀ W (hW : Below w.heap.size w W), Calls Tryz.prog 49 #[.agg #[.slice A n c], .agg #[b0, b1, b2, b3]] W (RowsPost (rowsT b.cols (rowsN b.glob fs)) W)) := fun h0 h1 W hW => by
    obtain ⟨f1, f2, f3, f4, f5⟩ := tab_facts h1
    exact l29Rows_any A n c b0 b1 b2 b3 fs b W (ht.later hW) (hb.later hW) hts h0 (by omega) f3
  have HR : Hid (rowsOfB fs b = if (treeB fs && tabB b) = true then rowsT b.cols (rowsN b.glob fs) else (1, [])) := rfl
  obtain ⟨rfl, rfl, ⟨A2, n2, p2, rfl, s2, k2⟩, ⟨A3, n3, p3, rfl, s3, k3⟩⟩ := hb
  clear s2 s3 ht hts hbs
  generalize rowsOfB fs b = R at *
  generalize treeB fs = xt at *
  generalize tabB b = xb at *
  generalize rowsT b.cols (rowsN b.glob fs) = rt at *
  generalize b.name = nm at *
  generalize b.glob = gl at *
  obtain ⟨WB, hWB⟩ : ∃ WB, WB = (w.alloc (.cells #[.slice A n c] 26)).alloc (.cells #[.string nm, .string gl, .slice A2 n2 p2, .slice A3 n3 p3] 29) := ⟨_, rfl⟩
  have HX0 : Hid (Blk WB w.heap.size 26 #[.slice A n c]) := by subst hWB; exact heap_two0 _ _ _
  have HX1 : Hid (Blk WB (w.heap.size + 1) 29 #[.string nm, .string gl, .slice A2 n2 p2, .slice A3 n3 p3]) := by subst hWB; exact heap_two1 _ _ _
  have HBB : Hid (Below w.heap.size w WB) := by subst hWB; exact (Below.new _ _).later (Below.new _ _)
  have HS1 : Hid (∀ W', Below WB.heap.size WB W' → (W'.cell? ⟨w.heap.size, 0, none⟩ = some (.slice A n c) ∧ W'.cell? ⟨w.heap.size + 1, 0, none⟩ = some (.string nm) ∧ W'.cell? ⟨w.heap.size + 1, 1, none⟩ = some (.string gl) ∧ W'.cell? ⟨w.heap.size + 1, 2, none⟩ = some (.slice A2 n2 p2) ∧ W'.cell? ⟨w.heap.size + 1, 3, none⟩ = some (.slice A3 n3 p3))) := fun W' hW => ⟨(HX0.out.later hW HX0.out.lt).at 0 rfl, (HX1.out.later hW HX1.out.lt).at 0 rfl, (HX1.out.later hW HX1.out.lt).at 1 rfl, (HX1.out.later hW HX1.out.lt).at 2 rfl, (HX1.out.later hW HX1.out.lt).at 3 rfl⟩
  go_enter Tryz.func27, Tryz.ntmps27
  go_wp2_with fail
  rw [← hWB]
  clear hWB
  refine (HK1.out _ HBB.out).mono ?_
  rintro e w1 ⟨rfl, hb1⟩
  have HB1 := Lib.hid hb1
  clear hb1
  cases xt
  · have HE : Hid (R = (1, [])) := by unfold Hid; rw [HR.out]; rfl
    go_wp2_with fail
    refine bodyPost_ret (v := .tuple #[.slice (some ⟨_, 0, none⟩) 0 0, .int .i64 _]) (by simp [results, Tryz.results27, go_sem]; try exact ⟨rfl, rfl⟩) rfl ?_
    exact ⟨_, by rw [HE.out], by rw [HE.out]; exact rowsI_lit _ _ (HBB.out.later HB1.out).size, (HBB.out.later HB1.out).later (Below.new _ _)⟩
  obtain ⟨x0, x1, x2, x3, x4⟩ := HS1.out _ HB1.out
  go_wp2_with fail
  refine (HK2.out _ (HBB.out.later HB1.out)).mono ?_
  rintro e w2 ⟨rfl, hb2⟩
  have HB2 := Lib.hid (HB1.out.later hb2)
  clear hb2 x0 x1 x2 x3 x4
  cases xb
  · have HE : Hid (R = (1, [])) := by unfold Hid; rw [HR.out]; rfl
    go_wp2_with fail
    refine bodyPost_ret (v := .tuple #[.slice (some ⟨_, 0, none⟩) 0 0, .int .i64 _]) (by simp [results, Tryz.results27, go_sem]; try exact ⟨rfl, rfl⟩) rfl ?_
    exact ⟨_, by rw [HE.out], by rw [HE.out]; exact rowsI_lit _ _ (HBB.out.later HB2.out).size, (HBB.out.later HB2.out).later (Below.new _ _)⟩
  obtain ⟨x0, x1, x2, x3, x4⟩ := HS1.out _ HB2.out
  have HE : Hid (R = rt) := by unfold Hid; rw [HR.out]; rfl
  have HK := Lib.hid (HK3.out (by first | rfl | trivial) (by first | rfl | trivial))
  clear HR HK3
  go_wp2_with fail
  refine (HK.out _ (HBB.out.later HB2.out)).mono ?_
  rintro e w3 ⟨v3, rfl, ho3, hb3⟩
  obtain ⟨A5, cap5, rfl, _⟩ := rowsI_rd ho3
  have HO3 := Lib.hid (ho3.base (HBB.out.later HB2.out).size)
  have HB3 := Lib.hid ((HBB.out.later HB2.out).later hb3)
  clear ho3 hb3 x0 x1 x2 x3 x4
  go_wp2_with fail
  refine bodyPost_ret (v := .tuple #[.slice A5 _ cap5, .int .i64 _]) (by simp [results, Tryz.results27, go_sem]; try exact ⟨rfl, rfl⟩) rfl ?_
  exact ⟨_, by rw [HE.out], by rw [HE.out]; exact HO3.out, HB3.out⟩

set_option maxRecDepth 100000 in
set_option maxHeartbeats 4000000 in
theorem RowsOf_any (A : Option Addr) (n c : Nat) (b0 b1 b2 b3 : Value) (fs : List NodeD) (b : TableD) (w : World) (htab : tabT w) (ht : Nodes w w.heap.size A n fs) (hb : TableR w w.heap.size b0 b1 b2 b3 b) (hts : smallNs fs) (hbs : b.small) :
    Calls Tryz.prog 29 #[.agg #[.slice A n c], .agg #[b0, b1, b2, b3]] w (RowsPost (rowsOfB fs b) w) := by
  have HK1 := Lib.hid (fun W (hW : Below w.heap.size w W) => TreeOk_any A n c fs W (ht.later hW) (tab_later htab hW) hts)
  have HK2 := Lib.hid (fun W (hW : Below w.heap.size w W) => TableOk_any b0 b1 b2 b3 b W (hb.later hW) hbs)
  have HK3 : Hid (treeB fs = true → tabB b = true → ∀ W (hW : Below w.heap.size w W), Calls Tryz.prog 45 #[.agg #[.slice A n c], .agg #[b0, b1, b2, b3]] W (RowsPost (rowsT b.cols (rowsN b.glob fs)) W)) := fun h0 h1 W hW => by
    obtain ⟨f1, f2, f3, f4, f5⟩ := tab_facts h1
    exact rowsOf_any A n c b0 b1 b2 b3 fs b W (ht.later hW) (hb.later hW) hts h0 (by omega) f3
  have HR : Hid (rowsOfB fs b = if (treeB fs && tabB b) = true then rowsT b.cols (rowsN b.glob fs) else (1, [])) := rfl
  obtain ⟨rfl, rfl, ⟨A2, n2, p2, rfl, s2, k2⟩, ⟨A3, n3, p3, rfl, s3, k3⟩⟩ := hb
  clear s2 s3 ht hts hbs
  generalize rowsOfB fs b = R at *
  generalize treeB fs = xt at *
  generalize tabB b = xb at *
  generalize rowsT b.cols (rowsN b.glob fs) = rt at *
  generalize b.name = nm at *
  generalize b.glob = gl at *
  obtain ⟨WB, hWB⟩ : ∃ WB, WB = (w.alloc (.cells #[.slice A n c] 26)).alloc (.cells #[.string nm, .string gl, .slice A2 n2 p2, .slice A3 n3 p3] 29) := ⟨_, rfl⟩
  have HX0 : Hid (Blk WB w.heap.size 26 #[.slice A n c]) := by subst hWB; exact heap_two0 _ _ _
  have HX1 : Hid (Blk WB (w.heap.size + 1) 29 #[.string nm, .string gl, .slice A2 n2 p2, .slice A3 n3 p3]) := by subst hWB; exact heap_two1 _ _ _
  have HBB : Hid (Below w.heap.size w WB) := by subst hWB; exact (Below.new _ _).later (Below.new _ _)
  have HS1 : Hid (∀ W', Below WB.heap.size WB W' → (W'.cell? ⟨w.heap.size, 0, none⟩ = some (.slice A n c) ∧ W'.cell? ⟨w.heap.size + 1, 0, none⟩ = some (.string nm) ∧ W'.cell? ⟨w.heap.size + 1, 1, none⟩ = some (.string gl) ∧ W'.cell? ⟨w.heap.size + 1, 2, none⟩ = some (.slice A2 n2 p2) ∧ W'.cell? ⟨w.heap.size + 1, 3, none⟩ = some (.slice A3 n3 p3))) := fun W' hW => ⟨(HX0.out.later hW HX0.out.lt).at 0 rfl, (HX1.out.later hW HX1.out.lt).at 0 rfl, (HX1.out.later hW HX1.out.lt).at 1 rfl, (HX1.out.later hW HX1.out.lt).at 2 rfl, (HX1.out.later hW HX1.out.lt).at 3 rfl⟩
  go_enter Tryz.func29, Tryz.ntmps29
  go_wp2_with fail
  rw [← hWB]
  clear hWB
  refine (HK1.out _ HBB.out).mono ?_
  rintro e w1 ⟨rfl, hb1⟩
  have HB1 := Lib.hid hb1
  clear hb1
  cases xt
  · have HE : Hid (R = (1, [])) := by unfold Hid; rw [HR.out]; rfl
    go_wp2_with fail
    refine bodyPost_ret (v := .tuple #[.slice none 0 0, .int .i64 _]) (by simp [results, Tryz.results29, go_sem]; try first | exact rfl | exact ⟨rfl, rfl⟩) rfl ?_
    exact ⟨_, by rw [HE.out], by rw [HE.out]; exact ⟨[], Own.OwnL.nil _ _ _⟩, HBB.out.later HB1.out⟩
  obtain ⟨x0, x1, x2, x3, x4⟩ := HS1.out _ HB1.out
  go_wp2_with fail
  refine (HK2.out _ (HBB.out.later HB1.out)).mono ?_
  rintro e w2 ⟨rfl, hb2⟩
  have HB2 := Lib.hid (HB1.out.later hb2)
  clear hb2 x0 x1 x2 x3 x4
  cases xb
  · have HE : Hid (R = (1, [])) := by unfold Hid; rw [HR.out]; rfl
    go_wp2_with fail
    refine bodyPost_ret (v := .tuple #[.slice none 0 0, .int .i64 _]) (by simp [results, Tryz.results29, go_sem]; try first | exact rfl | exact ⟨rfl, rfl⟩) rfl ?_
    exact ⟨_, by rw [HE.out], by rw [HE.out]; exact ⟨[], Own.OwnL.nil _ _ _⟩, HBB.out.later HB2.out⟩
  obtain ⟨x0, x1, x2, x3, x4⟩ := HS1.out _ HB2.out
  have HE : Hid (R = rt) := by unfold Hid; rw [HR.out]; rfl
  have HK := Lib.hid (HK3.out (by first | rfl | trivial) (by first | rfl | trivial))
  clear HR HK3
  go_wp2_with fail
  refine (HK.out _ (HBB.out.later HB2.out)).mono ?_
  rintro e w3 ⟨v3, rfl, ho3, hb3⟩
  obtain ⟨A5, cap5, rfl, _⟩ := rowsI_rd ho3
  have HO3 := Lib.hid (ho3.base (HBB.out.later HB2.out).size)
  have HB3 := Lib.hid ((HBB.out.later HB2.out).later hb3)
  clear ho3 hb3 x0 x1 x2 x3 x4
  go_wp2_with fail
  refine bodyPost_ret (v := .tuple #[.slice A5 _ cap5, .int .i64 _]) (by simp [results, Tryz.results29, go_sem]; try exact ⟨rfl, rfl⟩) rfl ?_
  exact ⟨_, by rw [HE.out], by rw [HE.out]; exact HO3.out, HB3.out⟩
end Go.Proofs.YtfpcjhajjejpdaaGreatDoor
