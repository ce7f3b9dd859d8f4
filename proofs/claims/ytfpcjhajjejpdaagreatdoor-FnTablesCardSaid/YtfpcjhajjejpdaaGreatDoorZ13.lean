/-
  Tables of the reference: what l29Place, l29Cell and l30Value compute. Tables of the reference: what l29Ok computes. Queries of the reference: what QueryOk computes. (Printed by gen_qr1.py.)
-/
import Derived.Test.YtfpcjhajjejpdaaGreatDoorZ09
import Derived.Test.YtfpcjhajjejpdaaGreatDoorZ01
import Derived.Test.YtfpcjhajjejpdaaGreatDoorZ11
namespace Go.Proofs.YtfpcjhajjejpdaaGreatDoor
open Go.RowKit

/-- The place of a word in a list; -1 where it is not. -/
def placeI (l : List ByteArray) (x : ByteArray) : Int := idxS (fun y => decide (y = x)) l 0
theorem idxS_bd (p : ByteArray → Bool) : ∀ (l : List ByteArray) (k : Nat), -1 ≤ idxS p l k ∧ idxS p l k < k + l.length
  | [], k => by simp [idxS]; omega
  | s :: r, k => by
    have := idxS_bd p r (k + 1)
    unfold idxS
    simp only [List.length_cons]
    split <;> omega
theorem placeI_bd (l : List ByteArray) (x : ByteArray) : -1 ≤ placeI l x ∧ placeI l x < l.length := by
  have := idxS_bd (fun y => decide (y = x)) l 0
  unfold placeI
  omega
theorem placeI_in (l : List ByteArray) (x : ByteArray) : decide (0 ≤ placeI l x) = l.any fun y => decide (y = x) := idxS_any _ l 0

set_option maxHeartbeats 1000000 in
theorem l29Place_any (A : Option Addr) (n c : Nat) (ss : List ByteArray) (x : ByteArray) (w : World) (h : Strs w w.heap.size A n ss) (hn : n ≤ 1048576) :
    Calls Tryz.prog 90 #[.slice A n c, .string x] w fun e w' => e = .returned (.int .i64 (placeI ss x)) ∧ w = w' := by
  have Hh := Lib.hid h
  have Hlen := Lib.hid h.1
  clear h
  go_enter Tryz.func90, Tryz.ntmps90
  go_wp2_with fail
  go_loop [5] (fun i => ∃ k : Nat, k ≤ n ∧ i = .int .i64 k ∧ Hid (placeI ss x = idxS (fun y => decide (y = x)) (ss.drop k) k)) (fun i => n - (intOf i).toNat)
  case atStart => exact ⟨0, Nat.zero_le _, rfl, rfl⟩
  case round =>
    obtain ⟨k, hk, rfl, hS⟩ := hrel
    by_cases hlt : k < n
    · obtain ⟨b, o, rfl, hb, hcell⟩ := Hh.out.2 (by omega)
      have hck := hcell k hlt
      clear hcell
      have HS := Lib.hid (idxS_step (fun y => decide (y = x)) ss k (by rw [Hlen.out]; exact hlt))
      generalize ss.getD k ByteArray.empty = s at *
      by_cases he : s = x
      · have HE : Hid (placeI ss x = k) := by unfold Hid; rw [hS.out, HS.out, if_pos (by simp [he])]
        subst he
        go_wp2_with fail
        go_ret
        exact ⟨ret_int HE.out.symm, rfl⟩
      · have HE : Hid (placeI ss x = idxS (fun y => decide (y = x)) (ss.drop (k + 1)) (k + 1)) := by unfold Hid; rw [hS.out, HS.out, if_neg (by simp [he])]
        have hbq := str_beq he
        clear he
        go_wp2_with fail
        go_round
        case rel => exact ⟨k + 1, by omega, by go_num, HE.out⟩
        case measure => simp [intOf]; omega
    · have HE : Hid (placeI ss x = -1) := by unfold Hid; rw [hS.out, List.drop_of_length_le (by rw [Hlen.out]; omega)]; rfl
      go_wp2_with fail
      go_ret
      exact ⟨ret_int HE.out.symm, rfl⟩

def cellC (c : UInt8) : Bool := decide (32 ≤ c.toNat) && (decide (c.toNat ≤ 126) && decide (c.toNat ≠ 94))
def cellB (s : ByteArray) : Bool := s.data.toList.all cellC && decide (s.size ≤ 11)
set_option maxHeartbeats 1000000 in
theorem l29Cell_any (s : ByteArray) (w : World) (hs : s.size ≤ 1048576) :
    Calls Tryz.prog 144 #[.string s] w fun e w' => e = .returned (.bool (cellB s)) ∧ w = w' := by
  have HR : Hid (cellB s = (s.data.toList.all cellC && decide (s.size ≤ 11))) := rfl
  generalize cellB s = R at *
  go_enter Tryz.func144, Tryz.ntmps144
  go_wp2_with fail
  go_loop [3] (fun i => ∃ k : Nat, k ≤ s.size ∧ i = .int .i64 k ∧ Hid (s.data.toList.all cellC = (s.data.toList.drop k).all cellC)) (fun i => s.size - (intOf i).toNat)
  case atStart => exact ⟨0, Nat.zero_le _, rfl, rfl⟩
  case round =>
    obtain ⟨k, hk, rfl, hS⟩ := hrel
    by_cases hlt : k < s.size
    · have HD := Lib.hid (drop_cons s k hlt)
      have HC : Hid (cellC s[k] = (decide (32 ≤ s[k].toNat) && (decide (s[k].toNat ≤ 126) && decide (s[k].toNat ≠ 94)))) := rfl
      by_cases h1 : s[k].toNat < 32
      · have HE : Hid (R = false) := by unfold Hid; rw [HR.out, hS.out, HD.out, List.all_cons, HC.out, decide_eq_false (by omega)]; simp
        go_wp2_with fail
        go_ret
        exact ⟨ret_bool HE.out.symm, rfl⟩
      · by_cases h2 : 126 < s[k].toNat
        · have HE : Hid (R = false) := by unfold Hid; rw [HR.out, hS.out, HD.out, List.all_cons, HC.out, decide_eq_false (show ¬ s[k].toNat ≤ 126 by omega)]; simp
          go_wp2_with fail
          go_ret
          exact ⟨ret_bool HE.out.symm, rfl⟩
        · by_cases h3 : s[k].toNat = 94
          · have HE : Hid (R = false) := by unfold Hid; rw [HR.out, hS.out, HD.out, List.all_cons, HC.out, h3]; simp
            have hb3 : ((s[k].toNat : Int) == 94) = true := by rw [beq_iff_eq]; omega
            have hb4 : (s[k].toNat == 94) = true := by rw [beq_iff_eq]; omega
            clear h3
            go_wp2_with fail
            go_ret
            exact ⟨ret_bool HE.out.symm, rfl⟩
          · have HE : Hid (s.data.toList.all cellC = (s.data.toList.drop (k + 1)).all cellC) := by unfold Hid; rw [hS.out, HD.out, List.all_cons, HC.out, decide_eq_true (show 32 ≤ s[k].toNat by omega), decide_eq_true (show s[k].toNat ≤ 126 by omega), decide_eq_true h3]; rfl
            have hb3 : ((s[k].toNat : Int) == 94) = false := by rw [beq_eq_false_iff_ne]; omega
            have hb4 : (s[k].toNat == 94) = false := by rw [beq_eq_false_iff_ne]; omega
            clear h3
            go_wp2_with fail
            go_round
            case rel => exact ⟨k + 1, by omega, by go_num, HE.out⟩
            case measure => simp [intOf]; omega
    · have HE : Hid (R = decide (s.size ≤ 11)) := by unfold Hid; rw [HR.out, hS.out, drop_end s k (by omega)]; rfl
      go_wp2_with fail
      go_ret
      exact ⟨ret_bool (by rw [HE.out]; first | (simp; done) | (simp; omega) | (rw [Bool.eq_iff_iff]; simp; omega)), rfl⟩

end Go.Proofs.YtfpcjhajjejpdaaGreatDoor
namespace Go.Proofs.YtfpcjhajjejpdaaGreatDoor
open Go.RowKit

theorem quiet_add {P : Program} {f : FuncId} {args : Array Value} {w : World} {q n : Nat} {v : Value}
    (h : Calls P f args (w.drewN (q + n)) fun e w' => e = .returned v ∧ w.drewN (q + n) = w') : Calls P f args (w.drewN (q + n)) fun e w'' => e = .returned v ∧ ∃ m, w'' = w.drewN (q + m) :=
  h.mono fun _ _ ⟨he, hm⟩ => ⟨he, n, hm.symm⟩
def colAt (cols : List ByteArray) (k : Nat) : Bool := nameB (cols.getD k ByteArray.empty) && decide (placeI (cols.take k) (cols.getD k ByteArray.empty) < 0)
def idxB (cols : List ByteArray) : List ByteArray → Int → Bool
  | [], _ => true
  | x :: r, last => decide (last < placeI cols x) && idxB cols r (placeI cols x)
theorem idxB_step (cols l : List ByteArray) (k : Nat) (last : Int) (h : k < l.length) : idxB cols (l.drop k) last = (decide (last < placeI cols (l.getD k ByteArray.empty)) && idxB cols (l.drop (k + 1)) (placeI cols (l.getD k ByteArray.empty))) := by
  rw [List.drop_eq_getElem_cons h, idxB, List.getD_eq_getElem?_getD, List.getElem?_eq_getElem h]; rfl
def tabB (d : TableD) : Bool := nameB d.name && (nameB d.glob && (decide (1 ≤ d.cols.length) && (decide (d.cols.length ≤ 5) && (decide (d.idx.length < d.cols.length) && (allFrom (colAt d.cols) 0 d.cols.length && idxB d.cols d.idx 0)))))

set_option maxRecDepth 100000 in
set_option maxHeartbeats 4000000 in
theorem l29Ok_any (c0 c1 c2 c3 : Value) (d : TableD) (w : World) (h : TableR w w.heap.size c0 c1 c2 c3 d) (hs : d.small) :
    Calls Tryz.prog 58 #[.agg #[c0, c1, c2, c3]] w fun e w' => e = .returned (.bool (tabB d)) ∧ Below w.heap.size w w' := by
  obtain ⟨rfl, rfl, ⟨A2, n2, p2, rfl, s2, k2⟩, ⟨A3, n3, p3, rfl, s3, k3⟩⟩ := h
  obtain ⟨f0, f1, ⟨f2, f2'⟩, ⟨f3, f3'⟩⟩ := hs
  have hn2 : n2 ≤ 1048576 := by rw [← s2.1]; exact f2
  have hn3 : n3 ≤ 1048576 := by rw [← s3.1]; exact f3
  have hR : tabB d = (nameB d.name && (nameB d.glob && (decide (1 ≤ n2) && (decide (n2 ≤ 5) && (decide (n3 < n2) && (allFrom (colAt d.cols) 0 n2 && idxB d.cols d.idx 0)))))) := by unfold tabB; rw [s2.1, s3.1]
  have HR := Lib.hid hR
  clear hR
  have HK0 := Lib.hid (fun W => specNameOk_any d.name W f0)
  have HK1 := Lib.hid (fun W => specNameOk_any d.glob W f1)
  have HS2 := Lib.hid s2
  have HS3 := Lib.hid s3
  have HZ2 := Lib.hid f2'
  clear s2 s3 f2' f3' f2 f3 f0 f1
  have HB0 := Lib.hid (Below.new w (.cells #[.string d.name, .string d.glob, .slice A2 n2 p2, .slice A3 n3 p3] 29))
  have HBq := Lib.hid (fun q => below_drewN (Below.new w (.cells #[.string d.name, .string d.glob, .slice A2 n2 p2, .slice A3 n3 p3] 29)) q)
  generalize tabB d = R at *
  generalize nameB d.name = x0 at *
  generalize nameB d.glob = x1 at *
  generalize d.name = nm at *
  generalize d.glob = gl at *
  generalize d.cols = cols at *
  generalize d.idx = idx at *
  go_enter Tryz.func58, Tryz.ntmps58
  go_wp2_with fail
  refine (HK0.out _).mono ?_
  rintro e w1 ⟨rfl, rfl⟩
  cases x0
  · have HE : Hid (R = false) := by unfold Hid; rw [HR.out]; rfl
    go_wp2_with fail
    go_ret
    exact ⟨ret_bool HE.out.symm, HB0.out⟩
  go_wp2_with fail
  refine (HK1.out _).mono ?_
  rintro e w1 ⟨rfl, rfl⟩
  cases x1
  · have HE : Hid (R = false) := by unfold Hid; rw [HR.out]; rfl
    go_wp2_with fail
    go_ret
    exact ⟨ret_bool HE.out.symm, HB0.out⟩
  by_cases a1 : n2 < 1
  · have HE : Hid (R = false) := by unfold Hid; rw [HR.out, decide_eq_false (show ¬ 1 ≤ n2 by omega)]; rfl
    go_wp2_with fail
    go_ret
    exact ⟨ret_bool HE.out.symm, HB0.out⟩
  by_cases a2 : 5 < n2
  · have HE : Hid (R = false) := by unfold Hid; rw [HR.out, decide_eq_false (show ¬ n2 ≤ 5 by omega)]; simp
    go_wp2_with fail
    go_ret
    exact ⟨ret_bool HE.out.symm, HB0.out⟩
  by_cases a3 : n2 ≤ n3
  · have HE : Hid (R = false) := by unfold Hid; rw [HR.out, decide_eq_false (show ¬ n3 < n2 by omega)]; simp
    go_wp2_with fail
    go_ret
    exact ⟨ret_bool HE.out.symm, HB0.out⟩
  have HE : Hid (R = (allFrom (colAt cols) 0 (n2 - 0) && idxB cols idx 0)) := by unfold Hid; rw [HR.out, decide_eq_true (show 1 ≤ n2 by omega), decide_eq_true (show n2 ≤ 5 by omega), decide_eq_true (show n3 < n2 by omega)]; rfl
  clear HR
  go_wp2_with fail
  go_loopw [3] (fun i wr => ∃ (k q : Nat), k ≤ n2 ∧ i = .int .i64 k ∧ wr = (w.alloc (.cells #[.string nm, .string gl, .slice A2 n2 p2, .slice A3 n3 p3] 29)).drewN q ∧ Hid (R = (allFrom (colAt cols) k (n2 - k) && idxB cols idx 0))) (fun i _ => n2 - (intOf i).toNat)
  case atStart => exact ⟨0, 0, Nat.zero_le _, rfl, rfl, HE.out⟩
  case round =>
    obtain ⟨k, q, hk, rfl, rfl, hS⟩ := hrel
    by_cases hlt : k < n2
    · obtain ⟨b, o, rfl, hb, hcell⟩ := HS2.out.2 (by omega)
      have hck := hcell k hlt
      clear hcell
      have hl : k < cols.length := by rw [HS2.out.1]; exact hlt
      have HSt := Lib.hid (allFrom_step (colAt cols) k n2 hlt)
      have HC : Hid (colAt cols k = (nameB (cols.getD k ByteArray.empty) && decide (placeI (cols.take k) (cols.getD k ByteArray.empty) < 0))) := rfl
      have HKn := Lib.hid (fun W => specNameOk_any (cols.getD k ByteArray.empty) W (strs_sz HZ2.out k hl))
      have HKp := Lib.hid (fun W (hW : Below w.heap.size w W) => l29Place_any (some ⟨b, o, none⟩) k p2 (cols.take k) (cols.getD k ByteArray.empty) W ((HS2.out.take k (by omega)).later hW) (by omega))
      have hbd := placeI_bd (cols.take k) (cols.getD k ByteArray.empty)
      have hlk : (cols.take k).length = k := by rw [List.length_take]; omega
      rw [hlk] at hbd
      have i1 : (k : Int) < (n2 : Int) := by omega
      have i2 : (k : Int) ≤ (n2 : Int) := by omega
      have i3 : (k : Int) ≤ (p2 : Int) := by omega
      have i4 : (0 : Int) ≤ (k : Int) := by omega
      clear hl hlk
      generalize cols.getD k ByteArray.empty = s at *
      generalize placeI (cols.take k) s = y at *
      generalize nameB s = x at *
      cases x
      · have HE2 : Hid (R = false) := by unfold Hid; rw [hS.out, HSt.out, HC.out]; rfl
        go_wp2_with fail
        go_quiet (first | (go_at_call 131; refine quiet_add (HKn.out _)))
        go_wp2_with fail
        go_ret
        exact ⟨ret_bool HE2.out.symm, by first | exact HBq.out _ | exact below_drewN (HBq.out _) _⟩
      · by_cases hy : 0 ≤ y
        · have HE2 : Hid (R = false) := by unfold Hid; rw [hS.out, HSt.out, HC.out, decide_eq_false (show ¬ y < 0 by omega)]; rfl
          have hd : decide (0 ≤ y) = true := decide_eq_true hy
          go_wp2_with fail
          go_quiet (first | (go_at_call 131; refine quiet_add (HKn.out _)) | (go_at_call 90; refine quiet_add (HKp.out _ (by exact HBq.out _))))
          go_wp2_with fail
          go_ret
          exact ⟨ret_bool HE2.out.symm, by first | exact HBq.out _ | exact below_drewN (HBq.out _) _⟩
        · have HE2 : Hid (R = (allFrom (colAt cols) (k + 1) (n2 - (k + 1)) && idxB cols idx 0)) := by unfold Hid; rw [hS.out, HSt.out, HC.out, decide_eq_true (show y < 0 by omega)]; rfl
          have hd : decide (0 ≤ y) = false := decide_eq_false hy
          go_wp2_with fail
          go_quiet (first | (go_at_call 131; refine quiet_add (HKn.out _)) | (go_at_call 90; refine quiet_add (HKp.out _ (by exact HBq.out _))))
          go_wp2_with fail
          go_roundw
          case rel => exact ⟨k + 1, _, by omega, by go_num, rfl, HE2.out⟩
          case measure => simp [intOf]; omega
    · have HE2 : Hid (R = idxB cols (idx.drop 0) 0) := by unfold Hid; rw [hS.out, allFrom_end _ _ _ hlt]; rfl
      clear hS HE
      obtain ⟨q0, hq0⟩ : ∃ q0, q0 = q := ⟨_, rfl⟩
      go_wp2_with fail
      go_loopw [5, 4] (fun i last wr => ∃ (j q : Nat) (m : Int), j ≤ n3 ∧ i = .int .i64 j ∧ last = .int .i64 m ∧ 0 ≤ m ∧ m ≤ 5 ∧ wr = (w.alloc (.cells #[.string nm, .string gl, .slice A2 n2 p2, .slice A3 n3 p3] 29)).drewN q ∧ Hid (R = idxB cols (idx.drop j) m)) (fun i _ _ => n3 - (intOf i).toNat)
      case atStart => exact ⟨0, _, 0, Nat.zero_le _, rfl, rfl, by omega, by omega, rfl, HE2.out⟩
      case round =>
        obtain ⟨j, q2, m, hj, rfl, rfl, hm0, hm1, rfl, hS2⟩ := hrel
        by_cases hltj : j < n3
        · obtain ⟨b, o, rfl, hb, hcell⟩ := HS3.out.2 (by omega)
          have hck := hcell j hltj
          clear hcell
          have hl : j < idx.length := by rw [HS3.out.1]; exact hltj
          have HSt := Lib.hid (idxB_step cols idx j m hl)
          have HKp := Lib.hid (fun W (hW : Below w.heap.size w W) => l29Place_any A2 n2 p2 cols (idx.getD j ByteArray.empty) W (HS2.out.later hW) hn2)
          have hbd := placeI_bd cols (idx.getD j ByteArray.empty)
          rw [HS2.out.1] at hbd
          have i1 : (j : Int) < (n3 : Int) := by omega
          clear hl
          generalize idx.getD j ByteArray.empty = s at *
          generalize placeI cols s = y at *
          go_wp2_with fail
          go_quiet (first | (go_at_call 90; refine quiet_add (HKp.out _ (by exact HBq.out _))))
          by_cases hy : y ≤ m
          · have HE3 : Hid (R = false) := by unfold Hid; rw [hS2.out, HSt.out, decide_eq_false (show ¬ m < y by omega)]; rfl
            go_wp2_with fail
            go_ret
            exact ⟨ret_bool HE3.out.symm, by first | exact HBq.out _ | exact below_drewN (HBq.out _) _⟩
          · have HE3 : Hid (R = idxB cols (idx.drop (j + 1)) y) := by unfold Hid; rw [hS2.out, HSt.out, decide_eq_true (show m < y by omega)]; rfl
            go_wp2_with fail
            go_roundw
            case rel => exact ⟨j + 1, _, y, by omega, by go_num, rfl, by omega, by omega, rfl, HE3.out⟩
            case measure => simp [intOf]; omega
        · have HE3 : Hid (R = true) := by unfold Hid; rw [hS2.out, List.drop_of_length_le (by rw [HS3.out.1]; omega)]; rfl
          go_wp2_with fail
          go_ret
          exact ⟨ret_bool HE3.out.symm, HBq.out _⟩
end Go.Proofs.YtfpcjhajjejpdaaGreatDoor
namespace Go.Proofs.YtfpcjhajjejpdaaGreatDoor
open Go.RowKit

theorem ne_empty {s : ByteArray} (h : s ≠ ⟨#[]⟩) : (s.toList == []) = false := by
  have := str_beq h
  simpa [toList_data] using this
end Go.Proofs.YtfpcjhajjejpdaaGreatDoor
