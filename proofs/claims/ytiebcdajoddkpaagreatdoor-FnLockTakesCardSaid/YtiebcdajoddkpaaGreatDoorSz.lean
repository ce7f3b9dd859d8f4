/-
  What szStringS, toStringS and eqStringS compute: the room that is left, a copy in new memory, whether two slices of strings are equal.
-/
import Derived.Test.YtiebcdajoddkpaaGreatDoorWords
import Derived.Test.YtiebcdajoddkpaaGreatDoorProg
namespace Go.Proofs.YtiebcdajoddkpaaGreatDoor
open Go.RowKit

/-- The room that is left behind some strings; -1 where there is none. -/
def szL : List ByteArray → Int → Int
  | [], left => left
  | s :: r, left => if left - s.size < 0 then -1 else szL r (left - s.size)

def szS (ss : List ByteArray) (left : Int) : Int := if left - ss.length < 0 then -1 else szL ss (left - ss.length)

theorem szL_step (ss : List ByteArray) (k : Nat) (left : Int) (hk : k < ss.length) :
    szL (ss.drop k) left = if left - (ss.getD k ByteArray.empty).size < 0 then -1 else szL (ss.drop (k + 1)) (left - (ss.getD k ByteArray.empty).size) := by
  rw [List.drop_eq_getElem_cons hk]
  simp [szL, List.getD_eq_getElem?_getD, List.getElem?_eq_getElem hk]
theorem szL_ge : ∀ (ss : List ByteArray) (left : Int), 0 ≤ left → -1 ≤ szL ss left ∧ szL ss left ≤ left
  | [], left, _h => by simp [szL]; omega
  | s :: r, left, _h => by
    unfold szL
    split
    · omega
    · have := szL_ge r (left - s.size) (by omega)
      omega
theorem szS_ge (ss : List ByteArray) (left : Int) (_h : 0 ≤ left) : -1 ≤ szS ss left := by
  unfold szS
  split
  · omega
  · exact (szL_ge ss _ (by omega)).1
theorem szS_le (ss : List ByteArray) (left : Int) (h : 0 ≤ left) : szS ss left ≤ left := by
  unfold szS
  split
  · omega
  · have := (szL_ge ss (left - ss.length) (by omega)).2
    omega
theorem szL_room : ∀ (ss : List ByteArray) (left : Int), 0 ≤ szL ss left → 0 ≤ left → ∀ s ∈ ss, (s.size : Int) ≤ left
  | [], _, _, _ => fun s hs => by cases hs
  | s :: r, left, h, h0 => by
    unfold szL at h
    split at h
    · omega
    · intro x hx
      rcases List.mem_cons.1 hx with e | e
      · subst e; omega
      · have := szL_room r (left - s.size) h (by omega) x e
        omega
theorem szS_room (ss : List ByteArray) (left : Int) (h : 0 ≤ szS ss left) : (ss.length : Int) ≤ left ∧ ∀ s ∈ ss, (s.size : Int) ≤ left := by
  unfold szS at h
  split at h
  · omega
  · refine ⟨by omega, fun s hs => ?_⟩
    have := szL_room ss _ h (by omega) s hs
    omega

set_option maxHeartbeats 400000 in
theorem szStringS_any (A : Option Addr) (n c : Nat) (ss : List ByteArray) (left : Int) (w : World) (h : Strs w w.heap.size A n ss)
    (h0 : 0 ≤ left) (h1 : left ≤ 1048576) (hz : ∀ s ∈ ss, s.size ≤ maxLen) (hn : n ≤ maxLen) :
    Calls Tryz.prog 26 #[.slice A n c, .int .i64 left] w fun e w' => e = .returned (.int .i64 (szS ss left)) ∧ w = w' := by
  obtain ⟨hlen, hc⟩ := h
  unfold maxLen at hn hz
  have Hc := Lib.hid hc
  have Hz := Lib.hid hz
  have Hlen := Lib.hid hlen
  clear hc hz hlen
  by_cases hl : left - n < 0
  · go_enter Tryz.func26, Tryz.ntmps26
    go_wp2
    go_ret
    exact ⟨ret_int (by unfold szS; rw [Hlen.out, if_pos hl]), rfl⟩
  · go_enter Tryz.func26, Tryz.ntmps26
    go_wp2
    go_loop [1, 5] (fun l i => ∃ (k : Nat) (m : Int), k ≤ n ∧ 0 ≤ m ∧ m ≤ left ∧ i = .int .i64 k ∧ l = .int .i64 m ∧ Hid (szS ss left = szL (ss.drop k) m)) (fun _ i => n - (intOf i).toNat)
    case atStart => 
      exact ⟨0, left - n, Nat.zero_le _, by omega, by omega, rfl, rfl, by unfold szS; rw [Hlen.out, if_neg (by omega)]; exact rfl⟩
    case round =>
      obtain ⟨k, m, hk, hm0, hm1, rfl, rfl, hS⟩ := hrel
      by_cases hlt : k < n
      · obtain ⟨b, o, rfl, hb, hcell⟩ := Hc.out (by omega)
        have hck := hcell k hlt
        clear hcell
        have hsz : ((ss.getD k ByteArray.empty).size : Int) ≤ 9223372036854775807 := by
          have := Hz.out (ss.getD k ByteArray.empty) (by
            have hl' : k < ss.length := by rw [Hlen.out]; exact hlt
            rw [List.getD_eq_getElem?_getD, List.getElem?_eq_getElem hl']; simp)
          omega
        have HS : Hid (szL (ss.drop k) m = if m - (ss.getD k ByteArray.empty).size < 0 then -1 else szL (ss.drop (k + 1)) (m - (ss.getD k ByteArray.empty).size)) := szL_step ss k m (by rw [Hlen.out]; exact hlt)
        generalize ss.getD k ByteArray.empty = s at *
        by_cases hlt2 : m - s.size < 0
        · go_wp2
          go_ret
          exact ⟨ret_int (by rw [hS.out, HS.out, if_pos hlt2]), rfl⟩
        · go_wp2
          go_round
          case rel => exact ⟨k + 1, m - s.size, by omega, by omega, by omega, by go_num, rfl, by unfold Hid; rw [hS.out, HS.out, if_neg (by omega)]⟩
          case measure => simp [intOf]; omega
      · go_wp2
        go_ret
        exact ⟨ret_int (by rw [hS.out, List.drop_of_length_le (by rw [Hlen.out]; omega)]; rfl), rfl⟩

theorem infoS : (Tryz.prog.info? 9).map (fun i => (i.zero, i.size, i.bytes)) = some (some (.string .empty), 1, 16) := by kernel_rfl

set_option maxHeartbeats 400000 in
theorem toStringS_any (A : Option Addr) (n c : Nat) (ss : List ByteArray) (w : World) (h : Strs w w.heap.size A n ss) (hn : n ≤ 1048576) :
    Calls Tryz.prog 28 #[.slice A n c] w fun e w' => e = .returned (.slice (some ⟨w.heap.size, 0, none⟩) n n) ∧ w.alloc (.cells (strArr ss) 9) = w' := by
  obtain ⟨hlen, hc⟩ := h
  have Hc := Lib.hid hc
  have Hlen := Lib.hid hlen
  clear hc hlen
  obtain ⟨i0, hi, hz0, hz1, hz2⟩ := info_parts infoS
  have hmk := fun W => run_make_rowN (P := Tryz.prog) 35 9 i0 _ Tryz.underlying35 hi hz0 .i64 .i64 n n (Nat.le_refl _) (by rw [hz2]; omega) (by omega) W
  simp only [hz1, Nat.mul_one] at hmk
  clear hz0 hz1 hz2 hi
  go_enter Tryz.func28, Tryz.ntmps28
  go_wp2
  clear hmk
  go_loopw [4] (fun i wr => ∃ (k : Nat) (cs : Array Value), k ≤ n ∧ i = .int .i64 k ∧ wr = w.alloc (.cells cs 9) ∧ Hid (cs.size = n) ∧ Hid (∀ j, j < k → cs[j]? = some (.string (ss.getD j ByteArray.empty)))) (fun i _ => n - (intOf i).toNat)
  case atStart => 
    exact ⟨0, _, Nat.zero_le _, rfl, rfl, size_madeCells _ _, fun j hj => absurd hj (by omega)⟩
  case round =>
    obtain ⟨k, cs, hk, rfl, rfl, hsz, hcs⟩ := hrel
    by_cases hlt : k < n
    · obtain ⟨b, o, rfl, hb, hcell⟩ := Hc.out (by omega)
      have hck := hcell k hlt
      clear hcell
      obtain ⟨old, hold⟩ : ∃ old, cs[k]? = some old := ⟨_, Array.getElem?_eq_getElem (by rw [hsz.out]; exact hlt)⟩
      have hks : k < cs.size := by rw [hsz.out]; exact hlt
      go_wp2
      go_roundw
      case rel => 
        refine ⟨k + 1, _, by omega, by go_num, rfl, ?_, ?_⟩
        · unfold Hid; simp [hsz.out]
        · intro j hj
          by_cases e : j = k
          · subst e; simp [hks]
          · rw [Array.getElem?_setIfInBounds_ne (by omega)]; exact hcs.out j (by omega)
      case measure => simp [intOf]; omega
    · go_wp2
      go_ret
      refine ⟨rfl, ?_⟩
      have : cs = strArr ss := by
        apply Array.ext_getElem?
        intro j
        by_cases hj : j < n
        · rw [hcs.out j (by omega)]
          have hl : j < ss.length := by rw [Hlen.out]; exact hj
          simp [strArr, List.getElem?_eq_getElem hl, List.getD_eq_getElem?_getD]
        · rw [Array.getElem?_eq_none (by rw [hsz.out]; omega), Array.getElem?_eq_none (by simp [strArr, Hlen.out]; omega)]
      rw [this]

/-- Whether two slices of strings are equal. -/
def eqS (a b : List ByteArray) : Bool := decide (a = b)

set_option maxHeartbeats 400000 in
theorem eqStringS_any (A A' : Option Addr) (n c n' c' : Nat) (ss ts : List ByteArray) (w : World) (h : Strs w w.heap.size A n ss) (h' : Strs w w.heap.size A' n' ts) (hn : n ≤ 1048576) (hn' : n' ≤ 1048576) :
    Calls Tryz.prog 30 #[.slice A n c, .slice A' n' c'] w fun e w' => e = .returned (.bool (eqS ss ts)) ∧ ∃ q, w' = w.drewN q := by
  obtain ⟨hlen, hc⟩ := h
  obtain ⟨hlen', hc'⟩ := h'
  have Hc := Lib.hid hc
  have Hlen := Lib.hid hlen
  have Hc' := Lib.hid hc'
  have Hlen' := Lib.hid hlen'
  clear hc hlen hc' hlen'
  by_cases hne : n = n'
  · subst hne
    go_enter Tryz.func30, Tryz.ntmps30
    go_wp2
    go_loopw [5] (fun i wr => ∃ (k : Nat), k ≤ n ∧ i = .int .i64 k ∧ (∃ q, wr = w.drewN q) ∧ Hid (∀ j, j < k → ss.getD j ByteArray.empty = ts.getD j ByteArray.empty)) (fun i _ => n - (intOf i).toNat)
    case atStart => exact ⟨0, Nat.zero_le _, rfl, ⟨0, rfl⟩, fun j hj => absurd hj (by omega)⟩
    case round =>
      obtain ⟨k, hk, rfl, ⟨q, rfl⟩, hcs⟩ := hrel
      by_cases hlt : k < n
      · obtain ⟨b, o, rfl, hb, hcell⟩ := Hc.out (by omega)
        obtain ⟨b', o', rfl, hb', hcell'⟩ := Hc'.out (by omega)
        have hck := hcell k hlt
        have hck' := hcell' k hlt
        clear hcell hcell'
        obtain ⟨s, hs⟩ : ∃ s, ss.getD k ByteArray.empty = s := ⟨_, rfl⟩
        obtain ⟨t, ht⟩ : ∃ t, ts.getD k ByteArray.empty = t := ⟨_, rfl⟩
        rw [hs] at hck
        rw [ht] at hck'
        have Hs := Lib.hid hs
        have Ht := Lib.hid ht
        clear hs ht
        go_wp2
        go_quiet (fail)
        go_wp2
        · go_ret
          refine ⟨ret_bool ?_, _, World.drewN_drewN _ _ _⟩
          have hst : s ≠ t := str_ne (by assumption)
          unfold eqS
          symm
          rw [decide_eq_false_iff_not]
          intro e
          apply hst
          rw [← Hs.out, ← Ht.out, e]
        · go_roundw
          case rel =>
            have hst : s = t := str_eq (by assumption)
            refine ⟨k + 1, by omega, by go_num, ⟨_, rfl⟩, ?_⟩
            intro j hj
            by_cases e : j = k
            · subst e; rw [Hs.out, Ht.out, hst]
            · exact hcs.out j (by omega)
          case measure => simp [intOf]; omega
      · go_wp2
        go_ret
        refine ⟨ret_bool ?_, _, rfl⟩
        unfold eqS
        symm
        rw [decide_eq_true_iff]
        apply List.ext_getElem (by rw [Hlen.out, Hlen'.out])
        intro j h1 h2
        have := hcs.out j (by rw [Hlen.out] at h1; omega)
        simpa [List.getD_eq_getElem?_getD, h1, h2] using this
  · have hb : ((n : Int) != (n' : Int)) = true := by rw [bne_iff_ne]; omega
    have hb2 : (n != n') = true := by rw [bne_iff_ne]; omega
    go_enter Tryz.func30, Tryz.ntmps30
    go_wp2
    go_ret
    refine ⟨ret_bool ?_, 0, rfl⟩
    unfold eqS
    symm
    rw [decide_eq_false_iff_not]
    rintro rfl
    exact hne (Hlen.out.symm.trans Hlen'.out)
end Go.Proofs.YtiebcdajoddkpaaGreatDoor
