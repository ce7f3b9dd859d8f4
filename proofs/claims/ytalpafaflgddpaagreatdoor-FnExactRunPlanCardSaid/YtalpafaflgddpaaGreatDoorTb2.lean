/-
  Tables of the reference: what l29Ok computes.
-/
import Derived.Test.YtalpafaflgddpaaGreatDoorTb1
import Derived.Test.YtalpafaflgddpaaGreatDoorTr2
namespace Go.Proofs.YtalpafaflgddpaaGreatDoor
open Go.RowKit

theorem quiet_same {P : Program} {f : FuncId} {args : Array Value} {w : World} {n : Nat} {v : Value}
    (h : Calls P f args (w.drewN n) fun e w' => e = .returned v ∧ w.drewN n = w') : Calls P f args (w.drewN n) fun e w'' => e = .returned v ∧ ∃ m, w'' = w.drewN m :=
  h.mono fun _ _ ⟨he, hm⟩ => ⟨he, n, hm.symm⟩
theorem quiet_add {P : Program} {f : FuncId} {args : Array Value} {w : World} {q n : Nat} {v : Value}
    (h : Calls P f args (w.drewN (q + n)) fun e w' => e = .returned v ∧ w.drewN (q + n) = w') : Calls P f args (w.drewN (q + n)) fun e w'' => e = .returned v ∧ ∃ m, w'' = w.drewN (q + m) :=
  h.mono fun _ _ ⟨he, hm⟩ => ⟨he, n, hm.symm⟩
def colAt (cols : List ByteArray) (k : Nat) : Bool := nameB (cols.getD k ByteArray.empty) && decide (placeI (cols.take k) (cols.getD k ByteArray.empty) < 0)
def idxB (cols : List ByteArray) : List ByteArray → Int → Bool
  | [], _ => true
  | x :: r, last => decide (last < placeI cols x) && idxB cols r (placeI cols x)
theorem idxB_step (cols l : List ByteArray) (k : Nat) (last : Int) (h : k < l.length) : idxB cols (l.drop k) last = (decide (last < placeI cols (l.getD k ByteArray.empty)) && idxB cols (l.drop (k + 1)) (placeI cols (l.getD k ByteArray.empty))) := by
  rw [List.drop_eq_getElem_cons h, idxB, List.getD_eq_getElem?_getD, List.getElem?_eq_getElem h]; rfl
def tabB (d : TableD) : Bool := nameB d.name && (nameB d.glob && (decide (1 ≤ d.cols.length) && (decide (d.cols.length ≤ 5) && (decide (d.idx.length < d.cols.length) && (allFrom (colAt d.cols) 0 d.cols.length && idxB d.cols d.idx 0)))))

set_option maxRecDepth 100000 in
set_option maxHeartbeats 4000000 in
theorem l29Ok_any (c0 c1 c2 c3 : Value) (d : TableD) (w : World) (h : TableR w w.heap.size c0 c1 c2 c3 d) (hs : d.small) :
    Calls Tryz.prog 82 #[.agg #[c0, c1, c2, c3]] w fun e w' => e = .returned (.bool (tabB d)) ∧ Below w.heap.size w w' := by
  obtain ⟨rfl, rfl, ⟨A2, n2, p2, rfl, s2, k2⟩, ⟨A3, n3, p3, rfl, s3, k3⟩⟩ := h
  obtain ⟨f0, f1, ⟨f2, f2'⟩, ⟨f3, f3'⟩⟩ := hs
  have hn2 : n2 ≤ 1048576 := by rw [← s2.1]; exact f2
  have hn3 : n3 ≤ 1048576 := by rw [← s3.1]; exact f3
  have hR : tabB d = (nameB d.name && (nameB d.glob && (decide (1 ≤ n2) && (decide (n2 ≤ 5) && (decide (n3 < n2) && (allFrom (colAt d.cols) 0 n2 && idxB d.cols d.idx 0)))))) := by unfold tabB; rw [s2.1, s3.1]
  have HR := Lib.hid hR
  clear hR
  have HK0 := Lib.hid (fun W => specNameOk_any d.name W f0)
  have HK1 := Lib.hid (fun W => specNameOk_any d.glob W f1)
  have HS2 := Lib.hid s2
  have HS3 := Lib.hid s3
  have HZ2 := Lib.hid f2'
  clear s2 s3 f2' f3' f2 f3 f0 f1
  have HB0 := Lib.hid (Below.new w (.cells #[.string d.name, .string d.glob, .slice A2 n2 p2, .slice A3 n3 p3] 43))
  have HBq := Lib.hid (fun q => below_drewN (Below.new w (.cells #[.string d.name, .string d.glob, .slice A2 n2 p2, .slice A3 n3 p3] 43)) q)
  generalize tabB d = R at *
  generalize nameB d.name = x0 at *
  generalize nameB d.glob = x1 at *
  generalize d.name = nm at *
  generalize d.glob = gl at *
  generalize d.cols = cols at *
  generalize d.idx = idx at *
  go_enter Tryz.func82, Tryz.ntmps82
  go_wp2_with fail
  refine (HK0.out _).mono ?_
  rintro e w1 ⟨rfl, rfl⟩
  cases x0
  · have HE : Hid (R = false) := by unfold Hid; rw [HR.out]; rfl
    go_wp2_with fail
    go_ret
    exact ⟨ret_bool HE.out.symm, HB0.out⟩
  go_wp2_with fail
  refine (HK1.out _).mono ?_
  rintro e w1 ⟨rfl, rfl⟩
  cases x1
  · have HE : Hid (R = false) := by unfold Hid; rw [HR.out]; rfl
    go_wp2_with fail
    go_ret
    exact ⟨ret_bool HE.out.symm, HB0.out⟩
  by_cases a1 : n2 < 1
  · have HE : Hid (R = false) := by unfold Hid; rw [HR.out, decide_eq_false (show ¬ 1 ≤ n2 by omega)]; rfl
    go_wp2_with fail
    go_ret
    exact ⟨ret_bool HE.out.symm, HB0.out⟩
  by_cases a2 : 5 < n2
  · have HE : Hid (R = false) := by unfold Hid; rw [HR.out, decide_eq_false (show ¬ n2 ≤ 5 by omega)]; simp
    go_wp2_with fail
    go_ret
    exact ⟨ret_bool HE.out.symm, HB0.out⟩
  by_cases a3 : n2 ≤ n3
  · have HE : Hid (R = false) := by unfold Hid; rw [HR.out, decide_eq_false (show ¬ n3 < n2 by omega)]; simp
    go_wp2_with fail
    go_ret
    exact ⟨ret_bool HE.out.symm, HB0.out⟩
  have HE : Hid (R = (allFrom (colAt cols) 0 (n2 - 0) && idxB cols idx 0)) := by unfold Hid; rw [HR.out, decide_eq_true (show 1 ≤ n2 by omega), decide_eq_true (show n2 ≤ 5 by omega), decide_eq_true (show n3 < n2 by omega)]; rfl
  clear HR
  go_wp2_with fail
  go_loopw [3] (fun i wr => ∃ (k q : Nat), k ≤ n2 ∧ i = .int .i64 k ∧ wr = (w.alloc (.cells #[.string nm, .string gl, .slice A2 n2 p2, .slice A3 n3 p3] 43)).drewN q ∧ Hid (R = (allFrom (colAt cols) k (n2 - k) && idxB cols idx 0))) (fun i _ => n2 - (intOf i).toNat)
  case atStart => exact ⟨0, 0, Nat.zero_le _, rfl, rfl, HE.out⟩
  case round =>
    obtain ⟨k, q, hk, rfl, rfl, hS⟩ := hrel
    by_cases hlt : k < n2
    · obtain ⟨b, o, rfl, hb, hcell⟩ := HS2.out.2 (by omega)
      have hck := hcell k hlt
      clear hcell
      have hl : k < cols.length := by rw [HS2.out.1]; exact hlt
      have HSt := Lib.hid (allFrom_step (colAt cols) k n2 hlt)
      have HC : Hid (colAt cols k = (nameB (cols.getD k ByteArray.empty) && decide (placeI (cols.take k) (cols.getD k ByteArray.empty) < 0))) := rfl
      have HKn := Lib.hid (fun W => specNameOk_any (cols.getD k ByteArray.empty) W (strs_sz HZ2.out k hl))
      have HKp := Lib.hid (fun W (hW : Below w.heap.size w W) => l29Place_any (some ⟨b, o, none⟩) k p2 (cols.take k) (cols.getD k ByteArray.empty) W ((HS2.out.take k (by omega)).later hW) (by omega))
      have hbd := placeI_bd (cols.take k) (cols.getD k ByteArray.empty)
      have hlk : (cols.take k).length = k := by rw [List.length_take]; omega
      rw [hlk] at hbd
      have i1 : (k : Int) < (n2 : Int) := by omega
      have i2 : (k : Int) ≤ (n2 : Int) := by omega
      have i3 : (k : Int) ≤ (p2 : Int) := by omega
      have i4 : (0 : Int) ≤ (k : Int) := by omega
      clear hl hlk
      generalize cols.getD k ByteArray.empty = s at *
      generalize placeI (cols.take k) s = y at *
      generalize nameB s = x at *
      cases x
      · have HE2 : Hid (R = false) := by unfold Hid; rw [hS.out, HSt.out, HC.out]; rfl
        go_wp2_with fail
        go_quiet (first | (go_at_call 117; refine quiet_add (HKn.out _)))
        go_wp2_with fail
        go_ret
        exact ⟨ret_bool HE2.out.symm, by first | exact HBq.out _ | exact below_drewN (HBq.out _) _⟩
      · by_cases hy : 0 ≤ y
        · have HE2 : Hid (R = false) := by unfold Hid; rw [hS.out, HSt.out, HC.out, decide_eq_false (show ¬ y < 0 by omega)]; rfl
          have hd : decide (0 ≤ y) = true := decide_eq_true hy
          go_wp2_with fail
          go_quiet (first | (go_at_call 117; refine quiet_add (HKn.out _)) | (go_at_call 84; refine quiet_add (HKp.out _ (by exact HBq.out _))))
          go_wp2_with fail
          go_ret
          exact ⟨ret_bool HE2.out.symm, by first | exact HBq.out _ | exact below_drewN (HBq.out _) _⟩
        · have HE2 : Hid (R = (allFrom (colAt cols) (k + 1) (n2 - (k + 1)) && idxB cols idx 0)) := by unfold Hid; rw [hS.out, HSt.out, HC.out, decide_eq_true (show y < 0 by omega)]; rfl
          have hd : decide (0 ≤ y) = false := decide_eq_false hy
          go_wp2_with fail
          go_quiet (first | (go_at_call 117; refine quiet_add (HKn.out _)) | (go_at_call 84; refine quiet_add (HKp.out _ (by exact HBq.out _))))
          go_wp2_with fail
          go_roundw
          case rel => exact ⟨k + 1, _, by omega, by go_num, rfl, HE2.out⟩
          case measure => simp [intOf]; omega
    · have HE2 : Hid (R = idxB cols (idx.drop 0) 0) := by unfold Hid; rw [hS.out, allFrom_end _ _ _ hlt]; rfl
      clear hS HE
      obtain ⟨q0, hq0⟩ : ∃ q0, q0 = q := ⟨_, rfl⟩
      go_wp2_with fail
      go_loopw [5, 4] (fun i last wr => ∃ (j q : Nat) (m : Int), j ≤ n3 ∧ i = .int .i64 j ∧ last = .int .i64 m ∧ 0 ≤ m ∧ m ≤ 5 ∧ wr = (w.alloc (.cells #[.string nm, .string gl, .slice A2 n2 p2, .slice A3 n3 p3] 43)).drewN q ∧ Hid (R = idxB cols (idx.drop j) m)) (fun i _ _ => n3 - (intOf i).toNat)
      case atStart => exact ⟨0, _, 0, Nat.zero_le _, rfl, rfl, by omega, by omega, rfl, HE2.out⟩
      case round =>
        obtain ⟨j, q2, m, hj, rfl, rfl, hm0, hm1, rfl, hS2⟩ := hrel
        by_cases hltj : j < n3
        · obtain ⟨b, o, rfl, hb, hcell⟩ := HS3.out.2 (by omega)
          have hck := hcell j hltj
          clear hcell
          have hl : j < idx.length := by rw [HS3.out.1]; exact hltj
          have HSt := Lib.hid (idxB_step cols idx j m hl)
          have HKp := Lib.hid (fun W (hW : Below w.heap.size w W) => l29Place_any A2 n2 p2 cols (idx.getD j ByteArray.empty) W (HS2.out.later hW) hn2)
          have hbd := placeI_bd cols (idx.getD j ByteArray.empty)
          rw [HS2.out.1] at hbd
          have i1 : (j : Int) < (n3 : Int) := by omega
          clear hl
          generalize idx.getD j ByteArray.empty = s at *
          generalize placeI cols s = y at *
          go_wp2_with fail
          go_quiet (first | (go_at_call 84; refine quiet_add (HKp.out _ (by exact HBq.out _))))
          by_cases hy : y ≤ m
          · have HE3 : Hid (R = false) := by unfold Hid; rw [hS2.out, HSt.out, decide_eq_false (show ¬ m < y by omega)]; rfl
            go_wp2_with fail
            go_ret
            exact ⟨ret_bool HE3.out.symm, by first | exact HBq.out _ | exact below_drewN (HBq.out _) _⟩
          · have HE3 : Hid (R = idxB cols (idx.drop (j + 1)) y) := by unfold Hid; rw [hS2.out, HSt.out, decide_eq_true (show m < y by omega)]; rfl
            go_wp2_with fail
            go_roundw
            case rel => exact ⟨j + 1, _, y, by omega, by go_num, rfl, by omega, by omega, rfl, HE3.out⟩
            case measure => simp [intOf]; omega
        · have HE3 : Hid (R = true) := by unfold Hid; rw [hS2.out, List.drop_of_length_le (by rw [HS3.out.1]; omega)]; rfl
          go_wp2_with fail
          go_ret
          exact ⟨ret_bool HE3.out.symm, HBq.out _⟩
end Go.Proofs.YtalpafaflgddpaaGreatDoor
