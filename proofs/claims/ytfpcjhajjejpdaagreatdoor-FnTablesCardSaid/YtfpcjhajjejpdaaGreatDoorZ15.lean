/-
  Plain law of distinct: of sorted names as many stay behind Compact as there were just where no two are equal. Tables and queries of the program: what cellOk, condOk and slices.Index, slices.Contains at strings compute. Tables and queries of the program: slices.IndexFunc, slices.ContainsFunc at structs; what condOk and TableOk compute. (Printed by gen_pi2.py.)
-/
import Derived.Test.YtfpcjhajjejpdaaGreatDoorZ14
import Derived.Test.YtfpcjhajjejpdaaGreatDoorZ13
import Derived.Test.YtfpcjhajjejpdaaGreatDoorZ01
import Derived.Lib.AppendIntMem
import Derived.Lib.TrimUEq
import Derived.Shelf.GgClosure.StringsIndexFuncTop
import Derived.Lib.IndexAny
namespace Go.Proofs.YtfpcjhajjejpdaaGreatDoor
open Go.RowKit

theorem compact_len_iff {α : Type} [Inhabited α] [DecidableEq α] (L : List α) : (Lib.compact L).length = L.length ↔ ∀ j, j < L.length → Lib.keeps L.toArray j = true := by
  unfold Lib.compact Lib.compactUpTo
  rw [List.length_map]
  constructor
  · intro h j hj
    have h2 : ((List.range L.length).filter (Lib.keeps L.toArray)).length = (List.range L.length).length := by rw [h, List.length_range]
    exact (List.length_filter_eq_length_iff.1 h2) j (List.mem_range.2 hj)
  · intro h
    rw [List.filter_eq_self.2 (fun j hj => h j (List.mem_range.1 hj)), List.length_range]
theorem le_anti (x y : List UInt8) (h1 : decide (x ≤ y) = true) (h2 : decide (y ≤ x) = true) : x = y := List.le_antisymm (by simpa using h1) (by simpa using h2)
theorem sorted_pw (l : List (List UInt8)) : (l.mergeSort fun x y => decide (x ≤ y)).Pairwise (fun x y => decide (x ≤ y) = true) :=
  List.pairwise_mergeSort (fun a b c h1 h2 => by simp only [decide_eq_true_eq] at *; exact List.le_trans h1 h2) (fun a b => by simp only [Bool.or_eq_true, decide_eq_true_eq]; exact List.le_total a b) l
theorem compact_sorted (l : List (List UInt8)) : (Lib.compact (l.mergeSort fun x y => decide (x ≤ y))).length = l.length ↔ l.Nodup := by
  have hp : (l.mergeSort fun x y => decide (x ≤ y)).Perm l := List.mergeSort_perm l _
  have hs := sorted_pw l
  rw [← hp.nodup_iff]
  have hl : l.length = (l.mergeSort fun x y => decide (x ≤ y)).length := hp.length_eq.symm
  rw [hl]
  clear hl hp
  generalize l.mergeSort (fun x y => decide (x ≤ y)) = L at *
  rw [compact_len_iff]
  rw [List.pairwise_iff_getElem] at hs
  unfold List.Nodup
  rw [List.pairwise_iff_getElem]
  constructor
  · intro h i j hi hj hij he
    have hk := h j hj
    unfold Lib.keeps at hk
    rw [decide_eq_true_iff] at hk
    rcases hk with hk | hk
    · omega
    · apply hk
      have e1 : L.toArray[j]! = L[j] := by simp [getElem!_pos, hj]
      have e2 : L.toArray[j - 1]! = L[j - 1] := by
        have : j - 1 < L.length := by omega
        simp [getElem!_pos, this]
      rw [e1, e2]
      by_cases e : i = j - 1
      · subst e; exact he.symm
      · exact le_anti _ _ (by rw [← he]; exact hs i (j - 1) hi (by omega) (by omega)) (hs (j - 1) j (by omega) hj (by omega))
  · intro h j hj
    unfold Lib.keeps
    rw [decide_eq_true_iff]
    by_cases h0 : j = 0
    · exact .inl h0
    · right
      have e1 : L.toArray[j]! = L[j] := by simp [getElem!_pos, hj]
      have e2 : L.toArray[j - 1]! = L[j - 1] := by
        have : j - 1 < L.length := by omega
        simp [getElem!_pos, this]
      rw [e1, e2]
      exact fun e => h (j - 1) j (by omega) hj (by omega) e.symm
/-- No two are equal: each one against those ahead of it. -/
def inS (l : List ByteArray) (x : ByteArray) : Bool := l.any fun y => decide (y = x)
theorem inS_iff (l : List ByteArray) (x : ByteArray) : inS l x = true ↔ x ∈ l := by
  unfold inS
  rw [List.any_eq_true]
  constructor
  · rintro ⟨y, hy, e⟩
    rw [decide_eq_true_iff] at e
    exact e ▸ hy
  · exact fun h => ⟨x, h, by simp⟩
def distAt (ss : List ByteArray) (k : Nat) : Bool := !inS (ss.take k) (ss.getD k ByteArray.empty)
def toL (s : ByteArray) : List UInt8 := s.data.toList
theorem toL_inj {a b : ByteArray} (h : toL a = toL b) : a = b := bytes_ext (by rw [toList_data, toList_data]; exact h)
theorem nodup_iff (ss : List ByteArray) : (ss.map toL).Nodup ↔ ∀ k, k < ss.length → distAt ss k = true := by
  unfold List.Nodup
  rw [List.pairwise_iff_getElem]
  constructor
  · intro h k hk
    unfold distAt
    rw [Bool.not_eq_true', ← Bool.not_eq_true, inS_iff]
    intro hm
    rw [List.getD_eq_getElem?_getD, List.getElem?_eq_getElem hk, Option.getD_some] at hm
    obtain ⟨i, hi, he⟩ := List.getElem_of_mem hm
    rw [List.getElem_take] at he
    rw [List.length_take] at hi
    refine h i k (by simp; omega) (by simpa using hk) (by omega) ?_
    rw [List.getElem_map, List.getElem_map, he]
  · intro h i j hi hj hij he
    rw [List.getElem_map, List.getElem_map] at he
    have he := toL_inj he
    have hj' : j < ss.length := by simpa using hj
    have hd := h j hj'
    unfold distAt at hd
    rw [Bool.not_eq_true', ← Bool.not_eq_true, inS_iff] at hd
    apply hd
    rw [List.getD_eq_getElem?_getD, List.getElem?_eq_getElem hj', Option.getD_some, ← he]
    have hi2 : i < (ss.take j).length := by rw [List.length_take]; omega
    have := List.getElem_mem hi2
    rw [List.getElem_take] at this
    exact this

theorem map_enc (ss : List ByteArray) : ss.map Value.string = (ss.map toL).map encStr := by
  rw [List.map_map]
  apply List.map_congr_left
  intro s _
  simp [toL, encStr]
def SortS (base : Nat) (v : Value) (zs : List (List UInt8)) (w : World) (e : Ending) (w' : World) : Prop := e = .returned (.tuple #[]) ∧ w'.ownsRow base 9 1 v zs.length ((zs.mergeSort fun x y => decide (x ≤ y)).map encStr) ∧ Below base w w'
theorem below_growS (w : World) (os : Array Obj) : Below w.heap.size w (Sort.grow w os) := Lib.below_grow w.heap.size w (Nat.le_refl _) 0 os
theorem slice_nil_decS (v : Value) (A : Option Addr) (n c : Nat) (h : v = .slice A n c) (hn : 0 < n) : v ≠ .slice none 0 0 := by
  rw [h]; intro e; injection e with _ e _; omega
theorem sortS_any (base : Nat) (v : Value) (zs : List (List UInt8)) (w : World) (h : w.ownsRow base 9 1 v zs.length (zs.map encStr)) (hBw : base ≤ w.heap.size) (hz : zs.length ≤ 2097152) :
    Calls Tryz.prog 212 #[v] w (SortS base v zs w) := by
  rcases Nat.eq_zero_or_pos zs.length with h0 | h0
  · obtain ⟨A, cap, rfl, _⟩ := Own.own_slice h
    have hz0 : zs = [] := List.eq_nil_of_length_eq_zero h0
    subst hz0
    exact (Tryz.slices_Sort_string_none A cap w).mono fun e w' ⟨he, hw⟩ => ⟨he, by subst hw; simpa using h, hw ▸ Below.refl _ _⟩
  · obtain ⟨A, c, hv, _⟩ := Own.own_slice h
    obtain ⟨g, cap, rfl, hbg, hlt, hcap, hm, _, hH⟩ := Lib.holds_of_ownsRow h (slice_nil_decS v A _ c hv h0)
    refine (Tryz.slices_Sort_string g 0 cap zs w hH hlt (by omega)).mono fun e w' ⟨he, n, os, hw⟩ => ⟨he, ?_, ?_⟩
    · have h1 := Lib.ownsRow_putRow (q := n) (k := zs.length) (ys := zs.mergeSort fun x y => decide (x ≤ y)) h (by simp) (Nat.le_refl _)
      rw [List.take_of_length_le (by simp)] at h1
      rw [hw]
      exact Own.own_later h1 (below_growS _ os)
    · rw [hw]
      have h2 : Below base w (Sort.putRow encStr (Sort.ahead w n) g 0 (zs.mergeSort fun x y => decide (x ≤ y)).toArray) := Lib.below_putRow (Below.refl base w) (by omega)
      exact h2.trans ((below_growS _ os).mono (by have := h2.size; omega))
def CompS (base : Nat) (zs : List (List UInt8)) (w : World) (e : Ending) (w' : World) : Prop := ∃ A c, e = .returned (.slice A (Lib.compact zs).length c) ∧ Below base w w'
theorem compactS_any (base : Nat) (v : Value) (zs : List (List UInt8)) (w : World) (h : w.ownsRow base 9 1 v zs.length (zs.map encStr)) (hz : zs.length ≤ 2097152) :
    Calls Tryz.prog 180 #[v] w (CompS base zs w) := by
  rcases Nat.eq_zero_or_pos zs.length with h0 | h0
  · obtain ⟨A, cap, rfl, _⟩ := Own.own_slice h
    have hz0 : zs = [] := List.eq_nil_of_length_eq_zero h0
    subst hz0
    exact (Tryz.slices_Compact_string_empty A cap w).mono fun e w' ⟨he, hw⟩ => ⟨A, cap, he, hw ▸ Below.refl _ _⟩
  · obtain ⟨A, c, hv, _⟩ := Own.own_slice h
    obtain ⟨g, cap, rfl, hbg, hlt, hcap, hm, _, hH⟩ := Lib.holds_of_ownsRow h (slice_nil_decS v A _ c hv h0)
    refine (Tryz.slices_Compact_string g 0 cap zs w hH (by omega) hcap).mono fun e w' ⟨he, q, hw⟩ => ⟨_, _, he, ?_⟩
    rw [hw]
    exact Lib.below_putRow (Below.refl base w) (by omega)
set_option maxHeartbeats 1000000 in
theorem Sorted_any (Bv len cap : Nat) (A : Option Addr) (ss : List ByteArray) (hreach : len ≤ 1048576) (w : World) (hBv : Bv < w.heap.size)
    (hc : w.cell? ⟨Bv, 0, none⟩ = some (.slice A len cap)) (hI : Strs w w.heap.size A len ss) :
    Calls Tryz.prog 178 #[.func (.func 213) #[] #[.pointer (some ⟨Bv, 0, none⟩)]] w fun e w' => ∃ v, e = .returned v ∧ w'.ownsRow w.heap.size 9 1 v ss.length (((ss.map toL).mergeSort fun x y => decide (x ≤ y)).map encStr) ∧ Below w.heap.size w w' := by
  have HK := Lib.hid ((callsIn_wide (n := 4)).1 (Collect_in Fence.wide 4 rfl rfl (by omega) Bv len cap A ss hreach w hBv hc hI))
  have hl : ss.length ≤ 2097152 := by have := hI.1; omega
  have HKS := Lib.hid (fun v W (h : W.ownsRow w.heap.size 9 1 v (ss.map toL).length ((ss.map toL).map encStr)) (hB : w.heap.size ≤ W.heap.size) => sortS_any w.heap.size v (ss.map toL) W h hB (by simpa using hl))
  clear hI hc
  have HM := Lib.hid (map_enc ss)
  have HN : Hid ((ss.map toL).length = ss.length) := List.length_map _
  generalize ss.map toL = zs at *
  unfold SortS at HKS
  rw [HM.out] at HK
  generalize (zs.mergeSort fun x y => decide (x ≤ y)).map encStr = ys at *
  generalize zs.map encStr = xs at *
  rw [HN.out] at HKS
  clear HM HN
  generalize ss.length = m at *
  go_enter Tryz.func178, Tryz.ntmps178
  go_wp2_with fail
  refine HK.out.mono ?_
  rintro e w1 ⟨v, rfl, hrow, hb⟩
  obtain ⟨A2, cap2, rfl, _⟩ := Own.own_slice hrow
  have HR := Lib.hid hrow
  have HB := Lib.hid hb
  clear hrow hb
  go_wp2_with fail
  refine (HKS.out _ _ HR.out HB.out.size).mono ?_
  rintro e w2 ⟨rfl, hrow2, hb2⟩
  have HR2 := Lib.hid hrow2
  have HB2 := Lib.hid (HB.out.trans hb2)
  clear hrow2 hb2
  go_wp2_with fail
  go_ret
  exact ⟨_, rfl, HR2.out, HB2.out⟩
def distB (ss : List ByteArray) : Bool := decide (∀ k, k < ss.length → distAt ss k = true)
theorem distB_eq (ss : List ByteArray) : decide ((Lib.compact ((ss.map toL).mergeSort fun x y => decide (x ≤ y))).length = ss.length) = distB ss := by
  unfold distB
  rw [decide_eq_decide, ← nodup_iff, ← compact_sorted, List.length_map]
set_option maxHeartbeats 1000000 in
theorem distinct_any (A : Option Addr) (n c : Nat) (ss : List ByteArray) (w : World) (h : Strs w w.heap.size A n ss) (hn : n ≤ 1048576) :
    Calls Tryz.prog 125 #[.slice A n c] w fun e w' => e = .returned (.bool (distB ss)) ∧ Below w.heap.size w w' := by
  have HV := Lib.hid ((callsIn_wide (n := 4)).1 (Values_in Fence.wide 4 trivial rfl A n c w))
  have HK := Lib.hid (Sorted_any w.heap.size n c A ss hn (w.alloc (.cells #[.slice A n c] 27)) (by simp) (by exact (show Blk _ _ _ _ from heap_alloc_new w (.cells #[.slice A n c] 27)).cell 0) (h.later (Below.new _ _)))
  have HL := Lib.hid h.1
  have hl : ss.length ≤ 2097152 := by have := h.1; omega
  have HC := Lib.hid (fun B v W (hW : W.ownsRow B 9 1 v ((ss.map toL).mergeSort fun x y => decide (x ≤ y)).length (((ss.map toL).mergeSort fun x y => decide (x ≤ y)).map encStr)) => compactS_any B v _ W hW (by simpa using hl))
  have HE := Lib.hid (distB_eq ss)
  have hlc : (Lib.compact ((ss.map toL).mergeSort fun x y => decide (x ≤ y))).length ≤ 2097152 := by
    have : (Lib.compact ((ss.map toL).mergeSort fun x y => decide (x ≤ y))).length ≤ ((ss.map toL).mergeSort fun x y => decide (x ≤ y)).length := by
      unfold Lib.compact Lib.compactUpTo
      rw [List.length_map]
      have := List.length_filter_le (Lib.keeps ((ss.map toL).mergeSort fun x y => decide (x ≤ y)).toArray) (List.range ((ss.map toL).mergeSort fun x y => decide (x ≤ y)).length)
      simpa using this
    rw [List.length_mergeSort, List.length_map] at this
    omega
  clear h
  have hlen : ((ss.map toL).mergeSort fun x y => decide (x ≤ y)).length = n := by rw [List.length_mergeSort, List.length_map]; exact HL.out
  have HLen := Lib.hid hlen
  clear hlen
  generalize ((ss.map toL).mergeSort fun x y => decide (x ≤ y)) = L at *
  generalize distB ss = R at *
  go_enter Tryz.func125, Tryz.ntmps125
  go_wp2_with fail
  refine HV.out.mono ?_
  rintro e w1 ⟨rfl, rfl⟩
  go_wp2_with fail
  refine HK.out.mono ?_
  rintro e w2 ⟨v, rfl, hrow, hb⟩
  rw [HL.out, ← HLen.out] at hrow
  obtain ⟨A2, cap2, rfl, _⟩ := Own.own_slice hrow
  have HR := Lib.hid hrow
  have HB := Lib.hid ((Below.new w _).trans (hb.mono (by simp)))
  have hz := hb.size
  simp at hz
  clear hrow hb
  go_wp2_with fail
  refine (HC.out _ _ _ HR.out).mono ?_
  rintro e w3 ⟨A3, c3, rfl, hb3⟩
  have HB3 := Lib.hid (HB.out.trans (hb3.mono (by simp)))
  clear hb3
  rw [HL.out] at HE
  generalize (Lib.compact L).length = m at *
  by_cases hm : m = n
  · have HE2 : Hid (R = true) := by unfold Hid; rw [← HE.out]; simp [hm]
    subst hm
    go_wp2_with fail
    go_ret
    exact ⟨ret_bool (by rw [HE2.out]), HB3.out⟩
  · have HE2 : Hid (R = false) := by unfold Hid; rw [← HE.out]; simp [hm]
    have hb : ((m : Int) == (n : Int)) = false := by rw [beq_eq_false_iff_ne]; omega
    have hb2 : (m == n) = false := by rw [beq_eq_false_iff_ne]; omega
    go_wp2_with fail
    go_ret
    exact ⟨ret_bool (by rw [HE2.out]), HB3.out⟩
end Go.Proofs.YtfpcjhajjejpdaaGreatDoor
namespace Go.Proofs.YtfpcjhajjejpdaaGreatDoor
open Go.RowKit

theorem place_idx : ∀ (l : List ByteArray) (x : ByteArray) (k : Nat), Lib.idxFromS l x k = idxS (fun y => decide (y = x)) l k
  | [], _, _ => rfl
  | s :: r, x, k => by
    have := place_idx r x (k + 1)
    by_cases e : s = x
    · simp [Lib.idxFromS, idxS, e]
    · simp [Lib.idxFromS, idxS, e, this]
theorem place_eq (l : List ByteArray) (x : ByteArray) : Lib.idxOfS l x = placeI l x := place_idx l x 0
theorem IndexS_any (A : Option Addr) (n c : Nat) (ss : List ByteArray) (x : ByteArray) (w : World) (h : Strs w w.heap.size A n ss) (hn : n ≤ 1048576) :
    Calls Tryz.prog 127 #[.slice A n c, .string x] w fun e w' => e = .returned (.int .i64 (placeI ss x)) ∧ w = w' := by
  rcases Nat.eq_zero_or_pos n with h0 | h0
  · subst h0
    obtain rfl : ss = [] := List.eq_nil_of_length_eq_zero h.1
    exact (Tryz.slices_Index_string_empty A c x w).mono fun e w' ⟨he, hw⟩ => ⟨by rw [he, place_eq], hw.symm⟩
  · obtain ⟨b, o, rfl, hb, hc⟩ := h.2 h0
    have hl := h.1
    refine (Tryz.slices_Index_string b o n c ss x w (by omega) (by omega) (fun j hj => hc j (by omega))).mono fun e w' ⟨he, hw⟩ => ⟨?_, hw.symm⟩
    rw [he, List.take_of_length_le (by omega), place_eq]
/-- The runes that cellOk does not bear. -/
def badR (r : Nat) : Bool := decide (r < 32) || (decide (126 < r) || decide (r = 94))
set_option maxHeartbeats 1000000 in
theorem cellOk1_any (r : Nat) (w : World) :
    Calls Tryz.prog 219 #[.int .i32 r] w fun e w' => e = .returned (.bool (badR r)) ∧ w = w' := by
  have HR : Hid (badR r = (decide (r < 32) || (decide (126 < r) || decide (r = 94)))) := rfl
  generalize badR r = R at *
  by_cases h1 : r < 32
  · have HE : Hid (R = true) := by unfold Hid; rw [HR.out, decide_eq_true h1]; rfl
    go_enter Tryz.func219, Tryz.ntmps219
    go_wp2_with fail
    go_ret
    exact ⟨ret_bool HE.out.symm, rfl⟩
  · by_cases h2 : 126 < r
    · have HE : Hid (R = true) := by unfold Hid; rw [HR.out, decide_eq_true h2]; simp
      go_enter Tryz.func219, Tryz.ntmps219
      go_wp2_with fail
      go_ret
      exact ⟨ret_bool HE.out.symm, rfl⟩
    · by_cases h3 : r = 94
      · have HE : Hid (R = true) := by unfold Hid; rw [HR.out, decide_eq_true h3]; simp
        subst h3
        go_enter Tryz.func219, Tryz.ntmps219
        go_wp2_with fail
        go_ret
        exact ⟨ret_bool HE.out.symm, rfl⟩
      · have HE : Hid (R = false) := by unfold Hid; rw [HR.out, decide_eq_false h1, decide_eq_false h2, decide_eq_false h3]; rfl
        have hb : ((r : Int) == 94) = false := by rw [beq_eq_false_iff_ne]; omega
        have hb2 : (r == 94) = false := by rw [beq_eq_false_iff_ne]; omega
        clear h3
        go_enter Tryz.func219, Tryz.ntmps219
        go_wp2_with fail
        go_ret
        exact ⟨ret_bool (by rw [HE.out]; first | rfl | (simp; done) | (simp; omega)), rfl⟩
theorem decodeN_big (n b0 b1 b2 b3 : Nat) (h : 128 ≤ b0) : 126 < (Lib.decodeN n b0 b1 b2 b3).1 := by
  unfold Lib.decodeN
  repeat' split
  all_goals (first | omega | (simp_all; omega) | (simp_all))
theorem badR_cell (c : UInt8) : badR c.toNat = !cellC c := by
  unfold badR cellC
  by_cases h1 : c.toNat < 32
  · rw [decide_eq_true h1, decide_eq_false (show ¬ 32 ≤ c.toNat by omega)]; rfl
  · by_cases h2 : 126 < c.toNat
    · rw [decide_eq_true h2, decide_eq_false (show ¬ c.toNat ≤ 126 by omega)]; simp
    · by_cases h3 : c.toNat = 94
      · rw [decide_eq_true h3, decide_eq_false (show ¬ c.toNat ≠ 94 from fun h => h h3)]; simp
      · rw [decide_eq_false h1, decide_eq_false h2, decide_eq_false h3, decide_eq_true (show 32 ≤ c.toNat by omega), decide_eq_true (show c.toNat ≤ 126 by omega), decide_eq_true (show c.toNat ≠ 94 from h3)]; rfl
theorem idx_cell (s : ByteArray) : ∀ (f pos : Nat), s.size - pos ≤ f → decide (0 ≤ Lib.idxFuncFrom badR true s f pos) = !((s.data.toList.drop pos).all cellC)
  | 0, pos, h => by
    rw [List.drop_of_length_le (by have : s.data.toList.length = s.size := Array.length_toList
                                   omega)]
    rfl
  | f + 1, pos, h => by
    unfold Lib.idxFuncFrom
    by_cases hp : pos < s.size
    · rw [if_pos hp]
      have hd := drop_cons s pos hp
      rw [hd, List.all_cons]
      have hg : (s.data.toList.getD pos 0).toNat = s[pos].toNat := by
        have hl : pos < s.data.toList.length := by rw [Array.length_toList]; exact hp
        rw [List.getD_eq_getElem?_getD, List.getElem?_eq_getElem hl]
        rfl
      by_cases ha : s[pos].toNat < 128
      · have hdec : Utf8.decode s pos = (s[pos].toNat, 1) := by rw [Lib.decode_N, hg, Lib.decodeN_ascii _ _ _ _ _ ha]
        rw [hdec]
        simp only []
        rw [badR_cell]
        cases hc : cellC s[pos]
        · simp
        · simp only [Bool.not_true, Bool.false_eq_true, if_false]
          rw [idx_cell s f (pos + 1) (by omega)]
          simp
      · have hdec : 126 < (Utf8.decode s pos).1 := by rw [Lib.decode_N, hg]; exact decodeN_big _ _ _ _ _ (by omega)
        have hb : badR (Utf8.decode s pos).1 = true := by unfold badR; rw [decide_eq_true hdec]; simp
        have hc : cellC s[pos] = false := by unfold cellC; rw [decide_eq_false (show ¬ s[pos].toNat ≤ 126 by omega)]; simp
        rw [hb, if_pos rfl, hc]
        simp
    · rw [if_neg hp, List.drop_of_length_le (by have : s.data.toList.length = s.size := Array.length_toList
                                                omega)]
      rfl
set_option maxHeartbeats 1000000 in
theorem cellOk_any (s : ByteArray) (w : World) (hs : s.size ≤ 1048576) :
    Calls Tryz.prog 190 #[.string s] w fun e w' => e = .returned (.bool (cellB s)) ∧ Below w.heap.size w w' := by
  have hp : PredAt Tryz.prog 219 #[] encR badR w := fun W x _ => (cellOk1_any x W).mono fun e w' ⟨he, hw⟩ => by
    subst hw
    exact ⟨he, 0, rfl⟩
  have HK := Lib.hid (Tryz.strings_ContainsFunc 219 #[] (enters_of Tryz.func219 (by kernel_rfl) rfl) badR s w hp)
  have HR : Hid (cellB s = (s.data.toList.all cellC && decide (s.size ≤ 11))) := rfl
  have HI : Hid (decide (0 ≤ Lib.idxFunc badR true s) = !(s.data.toList.all cellC)) := idx_cell s s.size 0 (by omega)
  clear hp
  rw [HI.out] at HK
  generalize cellB s = R at *
  generalize s.data.toList.all cellC = x at *
  by_cases h11 : s.size ≤ 11
  · have HE : Hid (R = x) := by unfold Hid; rw [HR.out, decide_eq_true h11, Bool.and_true]
    go_enter Tryz.func190, Tryz.ntmps190
    go_wp2_with fail
    refine HK.out.mono ?_
    rintro e w1 ⟨rfl, hb1⟩
    have HB := Lib.hid hb1
    clear hb1
    cases x
    all_goals
      go_wp2_with fail
      go_ret
      exact ⟨ret_bool HE.out.symm, HB.out⟩
  · have HE : Hid (R = false) := by unfold Hid; rw [HR.out, decide_eq_false h11]; simp
    go_enter Tryz.func190, Tryz.ntmps190
    go_wp2_with fail
    go_ret
    exact ⟨ret_bool HE.out.symm, Below.refl _ _⟩
end Go.Proofs.YtfpcjhajjejpdaaGreatDoor
namespace Go.Proofs.YtfpcjhajjejpdaaGreatDoor
open Go.RowKit

theorem idxF_any {α : Type} (p : α → Bool) : ∀ (l : List α) (k : Nat), decide (0 ≤ idxF p l k) = l.any p
  | [], k => by simp [idxF]
  | d :: r, k => by
    unfold idxF
    rw [List.any_cons, ← idxF_any p r (k + 1)]
    by_cases h : p d = true
    · simp [h]
    · simp [h]
theorem withinB_any (n a b : Int) (w : World) :
    Calls Tryz.prog 124 #[.int .i64 n, .int .i64 a, .int .i64 b] w fun e w' => e = .returned (.bool (inB n a b)) ∧ w = w' := within_any n a b w
def PredNode (g : Nat) (lb : Array Value) (p : NodeD → Bool) (fs : List NodeD) (w : World) : Prop :=
  ∀ d ∈ fs, ∀ c0 c1 c2 W, Below w.heap.size w W → NodeR W W.heap.size c0 c1 c2 d → Calls Tryz.prog g (#[.agg #[c0, c1, c2]] ++ lb) W fun e w' => e = .returned (.bool (p d)) ∧ Below W.heap.size W w'
set_option maxHeartbeats 1000000 in
theorem IndexFuncNode_any (g : Nat) (lb : Array Value) (p : NodeD → Bool) (A : Option Addr) (n c : Nat) (fs : List NodeD) (w : World) (h : Nodes w w.heap.size A n fs) (hn : n ≤ 1048576)
    (eg : ∀ args w, (callFunc g args).run Tryz.prog w = .ok (.enter g args) w) (hg : PredNode g lb p fs w) :
    Calls Tryz.prog 138 #[.slice A n c, .func (.func g) #[] lb] w fun e w' => e = .returned (.int .i64 (idxF p fs 0)) ∧ Below w.heap.size w w' := by
  have Hh := Lib.hid h
  have Hlen := Lib.hid h.1
  have Hg := Lib.hid hg
  clear h hg
  go_enter Tryz.func138, Tryz.ntmps138
  go_wp2_with fail
  go_loopw [8] (fun i wr => ∃ k : Nat, k ≤ n ∧ i = .int .i64 k ∧ Below w.heap.size w wr ∧ Hid (idxF p fs 0 = idxF p (fs.drop k) k)) (fun i _ => n - (intOf i).toNat)
  case atStart => exact ⟨0, Nat.zero_le _, rfl, Below.refl _ _, rfl⟩
  case round =>
    obtain ⟨k, hk, rfl, hb, hS⟩ := hrel
    have HB := Lib.hid hb
    clear hb
    by_cases hlt : k < n
    · obtain ⟨b, o, rfl, hbB, hcell⟩ := (Hh.out.later HB.out).2 (by omega)
      obtain ⟨c0, c1, c2, k0, k1, k2, hr⟩ := hcell k hlt
      clear hcell
      have hl : k < fs.length := by rw [Hlen.out]; exact hlt
      have HS := Lib.hid (idxF_step p fs k hl)
      have HK := Lib.hid (Hg.out (fs.getD k default) (getD_memD fs k hl) c0 c1 c2 wr HB.out hr)
      clear hl hr
      generalize fs.getD k default = s at *
      generalize hx : p s = x at *
      have HX := Lib.hid hx
      clear hx
      go_wp2_with fail
      refine HK.out.mono ?_
      rintro e w' ⟨rfl, hb1⟩
      have HB1 := Lib.hid (HB.out.later hb1)
      clear hb1
      cases x
      · go_wp2_with fail
        go_roundw
        case rel => exact ⟨k + 1, by omega, by go_num, HB1.out, by unfold Hid; rw [hS.out, HS.out]; rfl⟩
        case measure => simp [intOf]; omega
      · go_wp2_with fail
        go_ret
        exact ⟨ret_int (by rw [hS.out, HS.out]; rfl), HB1.out⟩
    · have HE : Hid (idxF p fs 0 = -1) := by unfold Hid; rw [hS.out, List.drop_of_length_le (by rw [Hlen.out]; omega)]; rfl
      go_wp2_with fail
      go_ret
      exact ⟨ret_int HE.out.symm, HB.out⟩
theorem TableOk1_any (s : ByteArray) (w : World) (hs : s.size ≤ 1048576) :
    Calls Tryz.prog 126 #[.string s] w fun e w' => e = .returned (.bool (!nameB s)) ∧ w = w' := by
  have HK := Lib.hid (NameOk_any s w hs)
  generalize nameB s = x at *
  go_enter Tryz.func126, Tryz.ntmps126
  go_wp2_with fail
  refine HK.out.mono ?_
  rintro e w1 ⟨rfl, rfl⟩
  go_wp2_with fail
  go_ret
  exact ⟨rfl, rfl⟩
theorem countS_any (A : Option Addr) (n c : Nat) (w : World) (_hn : n ≤ 1048576) :
    Calls Tryz.prog 68 #[.slice A n c] w fun e w' => e = .returned (.int .i64 n) ∧ w = w' := by
  go_enter Tryz.func68, Tryz.ntmps68
  go_wp2
  go_ret
  exact ⟨rfl, rfl⟩
end Go.Proofs.YtfpcjhajjejpdaaGreatDoor
